/- Walks: drawn numbers in four words. -/
import Derived.Test.YtmaebeknmiomnaaG0Y

namespace Go.Proofs.Ytmaebeknmiomnaa
open Go Go.RowKit
set_option linter.unusedSimpArgs false
set_option linter.unusedVariables false
set_option maxRecDepth 100000
attribute [local simp] List.getElem?_cons_zero List.getElem?_cons_succ List.getElem?_toArray runOps stepOp.eq_def agd.eq_def dstOk.eq_def opVal.eq_def opNew.eq_def opSto.eq_def ev.eq_def cv.eq_def puts_some puts_none upd_ap lst.eq_def aBin.eq_def aUn.eq_def aBi_str aBi_isl aBi_osl aBi_nsl aBi_max aBi_min aBi_max3 aConv.eq_def aLd.eq_def aLoad.eq_def aField.eq_def aFld.eq_def aIdx_isl aIdx_osl aSlc_isl aSlc_osl aSlc_str aSlc_nsl bnd.eq_def evs_nil evs_cons aBuild.eq_def aFill splice.eq_def cells_agg cells_int cells_bool cells_str cells_nil cells_nsl cells_isl cells_osl cells_ptr cells_ip cells_fn cells_Wd one_int one_bool one_str one_nil one_nsl one_isl one_osl one_ptr one_ip one_fn one_Wd aSets hupd_eq hupd_ne wrap_i64s wrap_u64s wrap_u32s wrap_u8s wd_getD wd_set wd_len wd_replicate wd_one wd_fold fz_osl hupd_same aSix.eq_def aEqS.eq_def aEqB_bool aEqB_nsl aEqB_nil
attribute [local simp] szT2 byT2 agT2 unT2 zoT2 szT3 byT3 agT3 unT3 zoT3 szT24 byT24 agT24 unT24 zoT24 szT26 byT26 agT26 flT26 fdT26_0 fdT26_1 fdT26_2 fdT26_3 zoT26 szT111 byT111 agT111 elT111 unT111 zoT111 szT194 byT194 agT194 unT194 zoT194 szT225 byT225 agT225 unT225 zoT225 szT228 byT228 agT228 elT228 unT228 zoT228 szT236 byT236 agT236 elT236 unT236 zoT236

set_option maxHeartbeats 4000000 in
theorem wide_ac (l : List Int) (p id : Nat) (H : Heap) (nx : Nat) (dl : Dig 256 l) (hl : l.length ≤ 1048576) (hp : p ≤ l.length) (hH : H id = some (2, [[Wd .u8 l, .int .i64 (p : Int)]])) (hd : ∀ i q, H i = some q → i < nx) : ACall Try.prog 161 [.ptr id 0 0] H nx (fun r H' nx' => (∃ x : W4, r = .agg [.int .u64 (x).a, .int .u64 (x).b, .int .u64 (x).c, .int .u64 (x).d] ∧ x.ok) ∧ (∃ p' : Nat, p' ≤ l.length ∧ H' = hupd H id (some (2, [[Wd .u8 l, .int .i64 (p' : Int)]]))) ∧ nx ≤ nx') := by
  have hid := hd id _ hH
  have t7l : tab7.length = 7 := rfl
  have hTl : (tab6.map W4.l).length = 6 := rfl
  obtain ⟨T, hT0⟩ : ∃ T, List.map W4.l tab6 = T := ⟨_, rfl⟩
  have hTx := gt6_get
  rw [hT0] at hTl hTx
  have hTy : ∀ (k : Nat) (h : k < T.length), T[k] = [.int .u64 (gt6 k).a, .int .u64 (gt6 k).b, .int .u64 (gt6 k).c, .int .u64 (gt6 k).d] := fun k h => by
    have := hTx k (by omega)
    rw [List.getElem?_eq_getElem h] at this
    simpa using this
  clear hTx
  refine ACall.body Try.func161 rfl 85 rfl fun K hK => ?_
  refine AWP.seqk fun K1 hK1 => ?_
  refine AWP.region (AOPS.all (by simp (disch := first|omega|(simp only[ln];omega)) [idf_Wd', idf_numS, cells_numS, numS_fold]; rfl) ?_)
  refine hK1 _ ?_
  refine AWP.seqk fun K2 hK2 => ?_
  refine AWP.seqk fun K3 hK3 => ?_
  refine AWP.region ?_
  refine AOPS.runk 1 (by simp (disch := first|omega|(simp only[ln];omega)) [List.take_succ_cons, List.take_zero, idf_Wd', idf_numS, cells_numS, numS_fold, hH]; rfl) ?_
  simp only [List.drop_succ_cons, List.drop_zero]
  refine AOPS.old fun hold1 => ?_
  refine AOPS.acall (below_ac 9 (by omega) (by omega) l p id _ _ dl hl hp (by simp (disch := omega) [hH]) hold1) rfl rfl rfl hb159 (by simp (disch := first|omega|(simp only[ln];omega)) [idf_Wd', hH, idf_numS, cells_numS, numS_fold]) (by simp (disch := first|omega|(simp only[ln];omega)) [hH]) (by simp) ?_
  rintro _ _ nx2 ⟨⟨k, rfl, k0, k1⟩, ⟨p2, hp2, rfl⟩, hnx2⟩
  try simp only [] at hnx2
  clear hold1
  simp only [puts_some, updo]
  refine AOPS.nil ?_
  refine hK3 _ ?_
  refine AWP.block ?_
  refine AWP.seqk fun K4 hK4 => ?_
  refine AWP.region (AOPS.all (by simp (disch := first|omega|(simp only[ln];omega)) [idf_Wd', idf_numS, cells_numS, numS_fold]; rfl) ?_)
  refine hK4 _ ?_
  refine cond_ok (k == 0) (by simp (disch := first|omega|(simp only[ln];omega))) (fun h9 => ?_) (fun h9 => ?_)
  · try simp only [decide_eq_true_eq, decide_eq_false_iff_not] at h9
    refine AWP.seqk fun K5 hK5 => ?_
    refine AWP.region ?_
    refine AOPS.runk 2 (by simp (disch := first|omega|(simp only[ln];omega)) [List.take_succ_cons, List.take_zero, idx_WdD (P := Try.prog) elT228 szT2, if_pos, idf_Wd', idf_numS, cells_numS, numS_fold, t7l]; rfl) ?_
    simp only [List.drop_succ_cons, List.drop_zero]
    refine AOPS.frz1 11 nx2 1 (wd .i64 tab7) (Wd .i64 tab7) (by simp; rfl) (by simp; first | exact fz_wd rfl | exact isl_take_wd (by decide)) ?_
    refine AOPS.old fun hold2 => ?_
    refine AOPS.acall (below_ac 7 (by omega) (by omega) l p2 id _ _ dl hl hp2 (by simp (disch := omega) [hH]) hold2) rfl rfl rfl hb159 (by simp (disch := first|omega|(simp only[ln];omega)) [idf_Wd', t7l, idf_numS, cells_numS, numS_fold]) (by simp (disch := first|omega|(simp only[ln];omega)) [t7l]) (by simp) ?_
    rintro _ _ nx3 ⟨⟨k7, rfl, k70, k71⟩, ⟨p3, hp3, rfl⟩, hnx3⟩
    try simp only [] at hnx3
    clear hold2
    have hk7 : k7.toNat < 7 := by omega
    simp only [puts_some, updo]
    refine AOPS.runk 2 (by simp (disch := first|omega|(simp only[ln];omega)) [List.take_succ_cons, List.take_zero, idx_WdD (P := Try.prog) elT228 szT2, if_pos, idf_Wd', idf_numS, cells_numS, numS_fold, t7l]; rfl) ?_
    simp only [List.drop_succ_cons, List.drop_zero]
    refine AOPS.fcall (wideOfS_fc (gt tab7 k7.toNat) (tab7_b _).1 (tab7_b _).2) rfl rfl rfl hb162 (by simp (disch := first|omega|(simp only[ln];omega)) [idf_Wd', t7l, idf_numS, cells_numS, numS_fold]) (by simp (disch := first|omega|(simp only[ln];omega)) [t7l]) (by simp) ?_
    simp only [puts_some, updo]
    refine AOPS.all (by simp (disch := first|omega|(simp only[ln];omega)) [idx_WdD (P := Try.prog) elT228 szT2, if_pos, idf_Wd', idf_numS, cells_numS, numS_fold, t7l]; rfl) ?_
    refine hK5 _ ?_
    refine AWP.ret ?_
    exact hK _ _ _ _ _ trivial ((Fin.mk (r := .agg [.int .u64 (W4z (gt tab7 k7.toNat)).a, .int .u64 (W4z (gt tab7 k7.toNat)).b, .int .u64 (W4z (gt tab7 k7.toNat)).c, .int .u64 (W4z (gt tab7 k7.toNat)).d]) (by simp (disch := omega) [aRes, aResL, aRes1, idf_Wd', idf_numS, cells_numS, numS_fold])).restr (fun i => decide (i < nx))) (⟨⟨W4z (gt tab7 k7.toNat), rfl, W4z_ok _⟩, ⟨p3, hp3, by simp (disch := first | omega | (simp; done) | (simp; omega)) [hrestr_in, hrestr_out, hrestr_all hd, hupd_same]⟩, by first | omega | (simp at *; omega)⟩)
  · try simp only [decide_eq_true_eq, decide_eq_false_iff_not] at h9
    refine AWP.seqk fun K6 hK6 => ?_
    refine AWP.region (AOPS.all (by simp (disch := first|omega|(simp only[ln];omega)) [idf_Wd', idf_numS, cells_numS, numS_fold]; rfl) ?_)
    refine hK6 _ ?_
    refine cond_ok (k == 1) (by simp (disch := first|omega|(simp only[ln];omega))) (fun h17 => ?_) (fun h17 => ?_)
    · try simp only [decide_eq_true_eq, decide_eq_false_iff_not] at h17
      refine AWP.seqk fun K7 hK7 => ?_
      refine AWP.region ?_
      refine AOPS.runk 8 (by simp (disch := first|omega|(simp only[ln];omega)) [List.take_succ_cons, List.take_zero, if_pos, idf_Wd', idf_numS, cells_numS, numS_fold, hTl, hTy]; rfl) ?_
      simp only [List.drop_succ_cons, List.drop_zero]
      refine AOPS.frz1 25 nx2 4 T (.isl T) (by simp [← hT0, tab6, W4.l]) (by simp; rw [← hT0]; exact fz_fill W4.l tab6 rfl) ?_
      refine AOPS.old fun hold8 => ?_
      refine AOPS.acall (below_ac 6 (by omega) (by omega) l p2 id _ _ dl hl hp2 (by simp (disch := omega) [hH]) hold8) rfl rfl rfl hb159 (by simp (disch := first|omega|(simp only[ln];omega)) [idf_Wd', hTl, hTy, idf_numS, cells_numS, numS_fold]) (by simp (disch := first|omega|(simp only[ln];omega)) [hTl, hTy]) (by simp) ?_
      rintro _ _ nx3 ⟨⟨k6, rfl, k60, k61⟩, ⟨p3, hp3, rfl⟩, hnx3⟩
      try simp only [] at hnx3
      clear hold8
      have hk6 : k6.toNat < 6 := by omega
      simp only [puts_some, updo]
      refine AOPS.all (by simp (disch := first|omega|(simp only[ln];omega)) [if_pos, idf_Wd', idf_numS, cells_numS, numS_fold, hTl, hTy]; rfl) ?_
      refine hK7 _ ?_
      refine AWP.ret ?_
      exact hK _ _ _ _ _ trivial ((Fin.mk (r := .agg [.int .u64 (gt6 k6.toNat).a, .int .u64 (gt6 k6.toNat).b, .int .u64 (gt6 k6.toNat).c, .int .u64 (gt6 k6.toNat).d]) (by simp (disch := omega) [aRes, aResL, aRes1, idf_Wd', idf_numS, cells_numS, numS_fold])).restr (fun i => decide (i < nx))) (⟨⟨gt6 k6.toNat, rfl, gt6_ok _⟩, ⟨p3, hp3, by simp (disch := first | omega | (simp; done) | (simp; omega)) [hrestr_in, hrestr_out, hrestr_all hd, hupd_same]⟩, by first | omega | (simp at *; omega)⟩)
    · try simp only [decide_eq_true_eq, decide_eq_false_iff_not] at h17
      refine AWP.seqk fun K8 hK8 => ?_
      refine AWP.region (AOPS.all (by simp (disch := first|omega|(simp only[ln];omega)) [idf_Wd', idf_numS, cells_numS, numS_fold]; rfl) ?_)
      refine hK8 _ ?_
      refine cond_ok (k == 2) (by simp (disch := first|omega|(simp only[ln];omega))) (fun h30 => ?_) (fun h30 => ?_)
      · try simp only [decide_eq_true_eq, decide_eq_false_iff_not] at h30
        refine AWP.seqk fun K9 hK9 => ?_
        refine AWP.region ?_
        refine AOPS.runk 1 (by simp (disch := first|omega|(simp only[ln];omega)) [List.take_succ_cons, List.take_zero, idf_Wd', idf_numS, cells_numS, numS_fold]; rfl) ?_
        simp only [List.drop_succ_cons, List.drop_zero]
        refine AOPS.old fun hold1 => ?_
        refine AOPS.acall (once_ac 2 (by omega) (by omega) l p2 id _ _ dl hl hp2 (by simp (disch := omega) [hH]) hold1) rfl rfl rfl hb78 (by simp (disch := first|omega|(simp only[ln];omega)) [idf_Wd', idf_numS, cells_numS, numS_fold]) (by simp (disch := first|omega|(simp only[ln];omega))) (by simp) ?_
        rintro _ _ nx3 ⟨⟨b, rfl⟩, ⟨p3, hp3, rfl⟩, hnx3⟩
        try simp only [] at hnx3
        clear hold1
        simp only [puts_some, updo]
        refine AOPS.runk 2 (by simp (disch := first|omega|(simp only[ln];omega)) [List.take_succ_cons, List.take_zero, idf_Wd', idf_numS, cells_numS, numS_fold]; rfl) ?_
        simp only [List.drop_succ_cons, List.drop_zero]
        refine AOPS.frz1 35 nx3 1 (wd .u32 [1]) (Wd .u32 [1]) (by simp) (by simp; first | exact fz_wd rfl | exact isl_take_wd (by simp)) ?_
        refine AOPS.old fun hold4 => ?_
        refine AOPS.acall (below_ac 255 (by omega) (by omega) l p3 id _ _ dl hl hp3 (by simp (disch := omega) [hH]) hold4) rfl rfl rfl hb159 (by simp (disch := first|omega|(simp only[ln];omega)) [idf_Wd', idf_numS, cells_numS, numS_fold]) (by simp (disch := first|omega|(simp only[ln];omega))) (by simp) ?_
        rintro _ _ nx4 ⟨⟨k8, rfl, k80, k81⟩, ⟨p4, hp4, rfl⟩, hnx4⟩
        try simp only [] at hnx4
        clear hold4
        obtain ⟨K8, rfl⟩ := Int.eq_ofNat_of_zero_le k80
        have hL := l1LeftI 1 K8 (by omega) (by rw [show ((1 : Nat) : Int) = 1 from rfl, dg_one]; simp)
        rw [show ((1 : Nat) : Int) = 1 from rfl, dg_one] at hL
        have bP := bg_pow K8 (by omega) b
        have bP0 := bg_pow K8 (by omega) false
        have hT := l1Trim_fc b (dg ((1 * 2 ^ K8 : Nat) : Int)) (by have := bP0.len32; rw [sg_false] at this; omega) (dg_dig _)
        rw [dg_val, Int.natAbs_natCast] at hT
        have hWd := l1Wide_fc bP (by omega)
        rw [wdT_l] at hWd
        unfold W4.l at hWd
        simp only [puts_some, updo]
        refine AOPS.fcall (hL) rfl rfl rfl hb210 (by simp (disch := first|omega|(simp only[ln];omega)) [idf_Wd', idf_numS, cells_numS, numS_fold]) (by simp (disch := first|omega|(simp only[ln];omega))) (by simp) ?_
        simp only [puts_some, updo]
        refine AOPS.fcall (hT) rfl rfl rfl hb195 (by simp (disch := first|omega|(simp only[ln];omega)) [idf_Wd', idf_numS, cells_numS, numS_fold]) (by simp (disch := first|omega|(simp only[ln];omega))) (by simp) ?_
        simp only [puts_some, updo]
        refine AOPS.fcall (hWd) rfl rfl rfl hb192 (by simp (disch := first|omega|(simp only[ln];omega)) [idf_Wd', idf_numS, cells_numS, numS_fold]) (by simp (disch := first|omega|(simp only[ln];omega))) (by simp) ?_
        simp only [puts_some, updo]
        refine AOPS.all (by simp (disch := first|omega|(simp only[ln];omega)) [idf_Wd', idf_numS, cells_numS, numS_fold]; rfl) ?_
        refine hK9 _ ?_
        refine AWP.seqk fun K10 hK10 => ?_
        refine AWP.region (AOPS.all (by simp (disch := first|omega|(simp only[ln];omega)) [idf_Wd', idf_numS, cells_numS, numS_fold]; rfl) ?_)
        refine hK10 _ ?_
        refine AWP.ret ?_
        exact hK _ _ _ _ _ trivial ((Fin.mk (r := .agg [.int .u64 (W4z (sg b ((1 * 2 ^ K8 : Nat) : Int))).a, .int .u64 (W4z (sg b ((1 * 2 ^ K8 : Nat) : Int))).b, .int .u64 (W4z (sg b ((1 * 2 ^ K8 : Nat) : Int))).c, .int .u64 (W4z (sg b ((1 * 2 ^ K8 : Nat) : Int))).d]) (by simp (disch := omega) [aRes, aResL, aRes1, idf_Wd', idf_numS, cells_numS, numS_fold])).restr (fun i => decide (i < nx))) (⟨⟨W4z (sg b ((1 * 2 ^ K8 : Nat) : Int)), rfl, W4z_ok _⟩, ⟨p4, hp4, by simp (disch := first | omega | (simp; done) | (simp; omega)) [hrestr_in, hrestr_out, hrestr_all hd, hupd_same]⟩, by first | omega | (simp at *; omega)⟩)
      · try simp only [decide_eq_true_eq, decide_eq_false_iff_not] at h30
        refine AWP.seqk fun K11 hK11 => ?_
        refine AWP.region (AOPS.all (by simp (disch := first|omega|(simp only[ln];omega)) [idf_Wd', idf_numS, cells_numS, numS_fold]; rfl) ?_)
        refine hK11 _ ?_
        refine cond_ok (k == 3) (by simp (disch := first|omega|(simp only[ln];omega))) (fun h44 => ?_) (fun h44 => ?_)
        · try simp only [decide_eq_true_eq, decide_eq_false_iff_not] at h44
          refine AWP.seqk fun K12 hK12 => ?_
          refine AWP.region ?_
          refine AOPS.runk 1 (by simp (disch := first|omega|(simp only[ln];omega)) [List.take_succ_cons, List.take_zero, idf_Wd', idf_numS, cells_numS, numS_fold]; rfl) ?_
          simp only [List.drop_succ_cons, List.drop_zero]
          refine AOPS.old fun hold1 => ?_
          refine AOPS.acall (word_ac l p2 id _ _ dl hl hp2 (by simp (disch := omega) [hH]) hold1) rfl rfl rfl hb163 (by simp (disch := first|omega|(simp only[ln];omega)) [idf_Wd', idf_numS, cells_numS, numS_fold]) (by simp (disch := first|omega|(simp only[ln];omega))) (by simp) ?_
          rintro _ _ nx3 ⟨⟨wa, rfl, wau⟩, ⟨p3, hp3, rfl⟩, hnx3⟩
          try simp only [] at hnx3
          clear hold1
          simp only [puts_some, updo]
          refine AOPS.runk 1 (by simp (disch := first|omega|(simp only[ln];omega)) [List.take_succ_cons, List.take_zero, idf_Wd', idf_numS, cells_numS, numS_fold]; rfl) ?_
          simp only [List.drop_succ_cons, List.drop_zero]
          refine AOPS.old fun hold3 => ?_
          refine AOPS.acall (word_ac l p3 id _ _ dl hl hp3 (by simp (disch := omega) [hH]) hold3) rfl rfl rfl hb163 (by simp (disch := first|omega|(simp only[ln];omega)) [idf_Wd', idf_numS, cells_numS, numS_fold]) (by simp (disch := first|omega|(simp only[ln];omega))) (by simp) ?_
          rintro _ _ nx4 ⟨⟨wb, rfl, wbu⟩, ⟨p4, hp4, rfl⟩, hnx4⟩
          try simp only [] at hnx4
          clear hold3
          simp only [puts_some, updo]
          refine AOPS.runk 1 (by simp (disch := first|omega|(simp only[ln];omega)) [List.take_succ_cons, List.take_zero, idf_Wd', idf_numS, cells_numS, numS_fold]; rfl) ?_
          simp only [List.drop_succ_cons, List.drop_zero]
          refine AOPS.old fun hold5 => ?_
          refine AOPS.acall (word_ac l p4 id _ _ dl hl hp4 (by simp (disch := omega) [hH]) hold5) rfl rfl rfl hb163 (by simp (disch := first|omega|(simp only[ln];omega)) [idf_Wd', idf_numS, cells_numS, numS_fold]) (by simp (disch := first|omega|(simp only[ln];omega))) (by simp) ?_
          rintro _ _ nx5 ⟨⟨wc, rfl, wcu⟩, ⟨p5, hp5, rfl⟩, hnx5⟩
          try simp only [] at hnx5
          clear hold5
          simp only [puts_some, updo]
          refine AOPS.runk 1 (by simp (disch := first|omega|(simp only[ln];omega)) [List.take_succ_cons, List.take_zero, idf_Wd', idf_numS, cells_numS, numS_fold]; rfl) ?_
          simp only [List.drop_succ_cons, List.drop_zero]
          refine AOPS.old fun hold7 => ?_
          refine AOPS.acall (word_ac l p5 id _ _ dl hl hp5 (by simp (disch := omega) [hH]) hold7) rfl rfl rfl hb163 (by simp (disch := first|omega|(simp only[ln];omega)) [idf_Wd', idf_numS, cells_numS, numS_fold]) (by simp (disch := first|omega|(simp only[ln];omega))) (by simp) ?_
          rintro _ _ nx6 ⟨⟨wd, rfl, wdu⟩, ⟨p6, hp6, rfl⟩, hnx6⟩
          try simp only [] at hnx6
          clear hold7
          simp only [puts_some, updo]
          refine AOPS.all (by simp (disch := first|omega|(simp only[ln];omega)) [idf_Wd', idf_numS, cells_numS, numS_fold]; rfl) ?_
          refine hK12 _ ?_
          refine AWP.ret ?_
          exact hK _ _ _ _ _ trivial ((Fin.mk (r := .agg [.int .u64 (⟨wa, wb, wc, wd⟩ : W4).a, .int .u64 (⟨wa, wb, wc, wd⟩ : W4).b, .int .u64 (⟨wa, wb, wc, wd⟩ : W4).c, .int .u64 (⟨wa, wb, wc, wd⟩ : W4).d]) (by simp (disch := omega) [aRes, aResL, aRes1, idf_Wd', idf_numS, cells_numS, numS_fold])).restr (fun i => decide (i < nx))) (⟨⟨⟨wa, wb, wc, wd⟩, rfl, ⟨wau, wbu, wcu, wdu⟩⟩, ⟨p6, hp6, by simp (disch := first | omega | (simp; done) | (simp; omega)) [hrestr_in, hrestr_out, hrestr_all hd, hupd_same]⟩, by first | omega | (simp at *; omega)⟩)
        · try simp only [decide_eq_true_eq, decide_eq_false_iff_not] at h44
          refine AWP.seqk fun K13 hK13 => ?_
          refine AWP.region (AOPS.all (by simp (disch := first|omega|(simp only[ln];omega)) [idf_Wd', idf_numS, cells_numS, numS_fold]; rfl) ?_)
          refine hK13 _ ?_
          refine cond_ok (k == 4) (by simp (disch := first|omega|(simp only[ln];omega))) (fun h55 => ?_) (fun h55 => ?_)
          · try simp only [decide_eq_true_eq, decide_eq_false_iff_not] at h55
            refine AWP.seqk fun K14 hK14 => ?_
            refine AWP.region ?_
            refine AOPS.runk 1 (by simp (disch := first|omega|(simp only[ln];omega)) [List.take_succ_cons, List.take_zero, idf_Wd', idf_numS, cells_numS, numS_fold, IntKind.bits]; rfl) ?_
            simp only [List.drop_succ_cons, List.drop_zero]
            refine AOPS.old fun hold1 => ?_
            refine AOPS.acall (word_ac l p2 id _ _ dl hl hp2 (by simp (disch := omega) [hH]) hold1) rfl rfl rfl hb163 (by simp (disch := first|omega|(simp only[ln];omega)) [idf_Wd', IntKind.bits, idf_numS, cells_numS, numS_fold]) (by simp (disch := first|omega|(simp only[ln];omega)) [IntKind.bits]) (by simp) ?_
            rintro _ _ nx3 ⟨⟨wa, rfl, wau⟩, ⟨p3, hp3, rfl⟩, hnx3⟩
            try simp only [] at hnx3
            clear hold1
            simp only [puts_some, updo]
            refine AOPS.runk 1 (by simp (disch := first|omega|(simp only[ln];omega)) [List.take_succ_cons, List.take_zero, idf_Wd', idf_numS, cells_numS, numS_fold, IntKind.bits]; rfl) ?_
            simp only [List.drop_succ_cons, List.drop_zero]
            refine AOPS.old fun hold3 => ?_
            refine AOPS.acall (below_ac 64 (by omega) (by omega) l p3 id _ _ dl hl hp3 (by simp (disch := omega) [hH]) hold3) rfl rfl rfl hb159 (by simp (disch := first|omega|(simp only[ln];omega)) [idf_Wd', IntKind.bits, idf_numS, cells_numS, numS_fold]) (by simp (disch := first|omega|(simp only[ln];omega)) [IntKind.bits]) (by simp) ?_
            rintro _ _ nx4 ⟨⟨k9, rfl, k90, k91⟩, ⟨p4, hp4, rfl⟩, hnx4⟩
            try simp only [] at hnx4
            clear hold3
            obtain ⟨K9, rfl⟩ := Int.eq_ofNat_of_zero_le k90
            have us := shr_U64 wau K9
            simp only [puts_some, updo]
            refine AOPS.runk 3 (by simp (disch := first|omega|(simp only[ln];omega)) [List.take_succ_cons, List.take_zero, idf_Wd', idf_numS, cells_numS, numS_fold, IntKind.bits]; rfl) ?_
            simp only [List.drop_succ_cons, List.drop_zero]
            refine AOPS.old fun hold7 => ?_
            refine AOPS.acall (word_ac l p4 id _ _ dl hl hp4 (by simp (disch := omega) [hH]) hold7) rfl rfl rfl hb163 (by simp (disch := first|omega|(simp only[ln];omega)) [idf_Wd', IntKind.bits, idf_numS, cells_numS, numS_fold]) (by simp (disch := first|omega|(simp only[ln];omega)) [IntKind.bits]) (by simp) ?_
            rintro _ _ nx5 ⟨⟨wb, rfl, wbu⟩, ⟨p5, hp5, rfl⟩, hnx5⟩
            try simp only [] at hnx5
            clear hold7
            simp only [puts_some, updo]
            refine AOPS.all (by simp (disch := first|omega|(simp only[ln];omega)) [idf_Wd', idf_numS, cells_numS, numS_fold, IntKind.bits]; rfl) ?_
            refine hK14 _ ?_
            refine AWP.ret ?_
            exact hK _ _ _ _ _ trivial ((Fin.mk (r := .agg [.int .u64 (⟨0, 0, wa.fdiv (2 ^ K9), wb⟩ : W4).a, .int .u64 (⟨0, 0, wa.fdiv (2 ^ K9), wb⟩ : W4).b, .int .u64 (⟨0, 0, wa.fdiv (2 ^ K9), wb⟩ : W4).c, .int .u64 (⟨0, 0, wa.fdiv (2 ^ K9), wb⟩ : W4).d]) (by simp (disch := omega) [aRes, aResL, aRes1, idf_Wd', idf_numS, cells_numS, numS_fold])).restr (fun i => decide (i < nx))) (⟨⟨⟨0, 0, wa.fdiv (2 ^ K9), wb⟩, rfl, ⟨by unfold U64; simp, by unfold U64; simp, us, wbu⟩⟩, ⟨p5, hp5, by simp (disch := first | omega | (simp; done) | (simp; omega)) [hrestr_in, hrestr_out, hrestr_all hd, hupd_same]⟩, by first | omega | (simp at *; omega)⟩)
          · try simp only [decide_eq_true_eq, decide_eq_false_iff_not] at h55
            refine AWP.seqk fun K15 hK15 => ?_
            refine AWP.region (AOPS.all (by simp (disch := first|omega|(simp only[ln];omega)) [idf_Wd', idf_numS, cells_numS, numS_fold]; rfl) ?_)
            refine hK15 _ ?_
            refine cond_ok (k == 5) (by simp (disch := first|omega|(simp only[ln];omega))) (fun h66 => ?_) (fun h66 => ?_)
            · try simp only [decide_eq_true_eq, decide_eq_false_iff_not] at h66
              refine AWP.seqk fun K16 hK16 => ?_
              refine AWP.region ?_
              refine AOPS.runk 1 (by simp (disch := first|omega|(simp only[ln];omega)) [List.take_succ_cons, List.take_zero, idf_Wd', idf_numS, cells_numS, numS_fold]; rfl) ?_
              simp only [List.drop_succ_cons, List.drop_zero]
              refine AOPS.old fun hold1 => ?_
              refine AOPS.acall (word_ac l p2 id _ _ dl hl hp2 (by simp (disch := omega) [hH]) hold1) rfl rfl rfl hb163 (by simp (disch := first|omega|(simp only[ln];omega)) [idf_Wd', idf_numS, cells_numS, numS_fold]) (by simp (disch := first|omega|(simp only[ln];omega))) (by simp) ?_
              rintro _ _ nx3 ⟨⟨wa, rfl, wau⟩, ⟨p3, hp3, rfl⟩, hnx3⟩
              try simp only [] at hnx3
              clear hold1
              have ia := wrap_I64 wa
              simp only [puts_some, updo]
              refine AOPS.runk 1 (by simp (disch := first|omega|(simp only[ln];omega)) [List.take_succ_cons, List.take_zero, idf_Wd', idf_numS, cells_numS, numS_fold]; rfl) ?_
              simp only [List.drop_succ_cons, List.drop_zero]
              refine AOPS.fcall (l1Int_fc (IntKind.i64.wrap wa) ia.1 ia.2) rfl rfl rfl hb106 (by simp (disch := first|omega|(simp only[ln];omega)) [idf_Wd', idf_numS, cells_numS, numS_fold]) (by simp (disch := first|omega|(simp only[ln];omega))) (by simp) ?_
              simp only [puts_some, updo]
              refine AOPS.runk 1 (by simp (disch := first|omega|(simp only[ln];omega)) [List.take_succ_cons, List.take_zero, idf_Wd', idf_numS, cells_numS, numS_fold]; rfl) ?_
              simp only [List.drop_succ_cons, List.drop_zero]
              refine AOPS.old fun hold5 => ?_
              refine AOPS.acall (word_ac l p3 id _ _ dl hl hp3 (by simp (disch := omega) [hH]) hold5) rfl rfl rfl hb163 (by simp (disch := first|omega|(simp only[ln];omega)) [idf_Wd', idf_numS, cells_numS, numS_fold]) (by simp (disch := first|omega|(simp only[ln];omega))) (by simp) ?_
              rintro _ _ nx4 ⟨⟨wb, rfl, wbu⟩, ⟨p4, hp4, rfl⟩, hnx4⟩
              try simp only [] at hnx4
              clear hold5
              have ib := wrap_I64 wb
              have bAB := (Bg.i64 ia.1 ia.2).mul (Bg.i64 ib.1 ib.2)
              have hWd := l1Wide_fc bAB (by omega)
              rw [wdT_l] at hWd
              unfold W4.l at hWd
              simp only [puts_some, updo]
              refine AOPS.runk 1 (by simp (disch := first|omega|(simp only[ln];omega)) [List.take_succ_cons, List.take_zero, idf_Wd', idf_numS, cells_numS, numS_fold]; rfl) ?_
              simp only [List.drop_succ_cons, List.drop_zero]
              refine AOPS.fcall (l1Int_fc (IntKind.i64.wrap wb) ib.1 ib.2) rfl rfl rfl hb106 (by simp (disch := first|omega|(simp only[ln];omega)) [idf_Wd', idf_numS, cells_numS, numS_fold]) (by simp (disch := first|omega|(simp only[ln];omega))) (by simp) ?_
              simp only [puts_some, updo]
              refine AOPS.fcall (l1Mul_fc (Bg.i64 ia.1 ia.2) (Bg.i64 ib.1 ib.2) (by omega) (by omega)) rfl rfl rfl hb105 (by simp (disch := first|omega|(simp only[ln];omega)) [idf_Wd', idf_numS, cells_numS, numS_fold]) (by simp (disch := first|omega|(simp only[ln];omega))) (by simp) ?_
              simp only [puts_some, updo]
              refine AOPS.fcall (hWd) rfl rfl rfl hb192 (by simp (disch := first|omega|(simp only[ln];omega)) [idf_Wd', idf_numS, cells_numS, numS_fold]) (by simp (disch := first|omega|(simp only[ln];omega))) (by simp) ?_
              simp only [puts_some, updo]
              refine AOPS.all (by simp (disch := first|omega|(simp only[ln];omega)) [idf_Wd', idf_numS, cells_numS, numS_fold]; rfl) ?_
              refine hK16 _ ?_
              refine AWP.seqk fun K17 hK17 => ?_
              refine AWP.region (AOPS.all (by simp (disch := first|omega|(simp only[ln];omega)) [idf_Wd', idf_numS, cells_numS, numS_fold]; rfl) ?_)
              refine hK17 _ ?_
              refine AWP.ret ?_
              exact hK _ _ _ _ _ trivial ((Fin.mk (r := .agg [.int .u64 (W4z (IntKind.i64.wrap wa * IntKind.i64.wrap wb)).a, .int .u64 (W4z (IntKind.i64.wrap wa * IntKind.i64.wrap wb)).b, .int .u64 (W4z (IntKind.i64.wrap wa * IntKind.i64.wrap wb)).c, .int .u64 (W4z (IntKind.i64.wrap wa * IntKind.i64.wrap wb)).d]) (by simp (disch := omega) [aRes, aResL, aRes1, idf_Wd', idf_numS, cells_numS, numS_fold])).restr (fun i => decide (i < nx))) (⟨⟨W4z (IntKind.i64.wrap wa * IntKind.i64.wrap wb), rfl, W4z_ok _⟩, ⟨p4, hp4, by simp (disch := first | omega | (simp; done) | (simp; omega)) [hrestr_in, hrestr_out, hrestr_all hd, hupd_same]⟩, by first | omega | (simp at *; omega)⟩)
            · try simp only [decide_eq_true_eq, decide_eq_false_iff_not] at h66
              refine AWP.skip ?_
              refine hK2 _ ?_
              refine AWP.seqk fun K18 hK18 => ?_
              refine AWP.region ?_
              refine AOPS.runk 1 (by simp (disch := first|omega|(simp only[ln];omega)) [List.take_succ_cons, List.take_zero, idf_Wd', idf_numS, cells_numS, numS_fold]; rfl) ?_
              simp only [List.drop_succ_cons, List.drop_zero]
              refine AOPS.old fun hold1 => ?_
              refine AOPS.acall (near_ac (-60) (60) (by omega) (by omega) (by omega) l p2 id _ _ dl hl hp2 (by simp (disch := omega) [hH]) hold1) rfl rfl rfl hb164 (by simp (disch := first|omega|(simp only[ln];omega)) [idf_Wd', idf_numS, cells_numS, numS_fold]) (by simp (disch := first|omega|(simp only[ln];omega))) (by simp) ?_
              rintro _ _ nx3 ⟨⟨kn, rfl, kn0, kn1⟩, ⟨p3, hp3, rfl⟩, hnx3⟩
              try simp only [] at hnx3
              clear hold1
              simp only [puts_some, updo]
              refine AOPS.fcall (wideOfS_fc kn (by omega) (by omega)) rfl rfl rfl hb162 (by simp (disch := first|omega|(simp only[ln];omega)) [idf_Wd', idf_numS, cells_numS, numS_fold]) (by simp (disch := first|omega|(simp only[ln];omega))) (by simp) ?_
              simp only [puts_some, updo]
              refine AOPS.all (by simp (disch := first|omega|(simp only[ln];omega)) [idf_Wd', idf_numS, cells_numS, numS_fold]; rfl) ?_
              refine hK18 _ ?_
              refine AWP.ret ?_
              exact hK _ _ _ _ _ trivial ((Fin.mk (r := .agg [.int .u64 (W4z kn).a, .int .u64 (W4z kn).b, .int .u64 (W4z kn).c, .int .u64 (W4z kn).d]) (by simp (disch := omega) [aRes, aResL, aRes1, idf_Wd', idf_numS, cells_numS, numS_fold])).restr (fun i => decide (i < nx))) (⟨⟨W4z kn, rfl, W4z_ok _⟩, ⟨p3, hp3, by simp (disch := first | omega | (simp; done) | (simp; omega)) [hrestr_in, hrestr_out, hrestr_all hd, hupd_same]⟩, by first | omega | (simp at *; omega)⟩)

end Go.Proofs.Ytmaebeknmiomnaa

/- Walks: drawn points. -/
namespace Go.Proofs.Ytmaebeknmiomnaa
open Go Go.RowKit
set_option linter.unusedSimpArgs false
set_option linter.unusedVariables false
set_option maxRecDepth 100000
attribute [local simp] List.getElem?_cons_zero List.getElem?_cons_succ List.getElem?_toArray runOps stepOp.eq_def agd.eq_def dstOk.eq_def opVal.eq_def opNew.eq_def opSto.eq_def ev.eq_def cv.eq_def puts_some puts_none upd_ap lst.eq_def aBin.eq_def aUn.eq_def aBi_str aBi_isl aBi_osl aBi_nsl aBi_max aBi_min aBi_max3 aConv.eq_def aLd.eq_def aLoad.eq_def aField.eq_def aFld.eq_def aIdx_isl aIdx_osl aSlc_isl aSlc_osl aSlc_str aSlc_nsl bnd.eq_def evs_nil evs_cons aBuild.eq_def aFill splice.eq_def cells_agg cells_int cells_bool cells_str cells_nil cells_nsl cells_isl cells_osl cells_ptr cells_ip cells_fn cells_Wd one_int one_bool one_str one_nil one_nsl one_isl one_osl one_ptr one_ip one_fn one_Wd aSets hupd_eq hupd_ne wrap_i64s wrap_u64s wrap_u32s wrap_u8s wd_getD wd_set wd_len wd_replicate wd_one wd_fold fz_osl hupd_same aSix.eq_def aEqS.eq_def aEqB_bool aEqB_nsl aEqB_nil
attribute [local simp] szT2 byT2 agT2 unT2 zoT2 szT3 byT3 agT3 unT3 zoT3 szT22 byT22 agT22 elT22 unT22 zoT22 szT24 byT24 agT24 unT24 zoT24 szT26 byT26 agT26 flT26 fdT26_0 fdT26_1 fdT26_2 fdT26_3 zoT26 szT28 byT28 agT28 flT28 fdT28_0 fdT28_1 fdT28_2 zoT28 szT67 byT67 agT67 flT67 fdT67_0 fdT67_1 zoT67 szT190 byT190 agT190 flT190 fdT190_0 fdT190_1 zoT190

set_option maxHeartbeats 8000000 in
theorem point_ac (l : List Int) (p id : Nat) (H : Heap) (nx : Nat) (dl : Dig 256 l) (hl : l.length ≤ 1048576) (hp : p ≤ l.length) (hH : H id = some (2, [[Wd .u8 l, .int .i64 (p : Int)]])) (hd : ∀ i q, H i = some q → i < nx) : ACall Try.prog 77 [.ptr id 0 0] H nx (fun r H' nx' => (∃ x : Pt, r = .agg [.int .u64 (x).x.a, .int .u64 (x).x.b, .int .u64 (x).x.c, .int .u64 (x).x.d, .int .u64 (x).y.a, .int .u64 (x).y.b, .int .u64 (x).y.c, .int .u64 (x).y.d, .int .u64 (x).w.a, .int .u64 (x).w.b, .int .u64 (x).w.c, .int .u64 (x).w.d] ∧ x.ok) ∧ (∃ p' : Nat, p' ≤ l.length ∧ H' = hupd H id (some (2, [[Wd .u8 l, .int .i64 (p' : Int)]]))) ∧ nx ≤ nx') := by
  have hid := hd id _ hH
  have hfd : ∀ x : Int, x.fdiv 2 = x / 2 := fun x => Int.fdiv_eq_ediv_of_nonneg _ (by omega)
  refine ACall.body Try.func77 rfl 84 rfl fun K hK => ?_
  refine AWP.seqk fun K1 hK1 => ?_
  refine AWP.region (AOPS.all (by simp (disch := first|omega|(simp only[ln];omega)) [idf_Wd']; rfl) ?_)
  refine hK1 _ ?_
  refine AWP.seqk fun K2 hK2 => ?_
  refine AWP.seqk fun K3 hK3 => ?_
  refine AWP.region ?_
  refine AOPS.runk 1 (by simp (disch := first|omega|(simp only[ln];omega)) [List.take_succ_cons, List.take_zero, idf_Wd', hH]; rfl) ?_
  simp only [List.drop_succ_cons, List.drop_zero]
  refine AOPS.old fun hold1 => ?_
  refine AOPS.acall (below_ac 10 (by omega) (by omega) l p id _ _ dl hl hp (by simp (disch := omega) [hH]) hold1) rfl rfl rfl hb159 (by simp (disch := first|omega|(simp only[ln];omega)) [idf_Wd', hH]) (by simp (disch := first|omega|(simp only[ln];omega)) [hH]) (by simp) ?_
  rintro _ _ nx2 ⟨⟨k, rfl, k0, k1⟩, ⟨p2, hp2, rfl⟩, hnx2⟩
  try simp only [] at hnx2
  clear hold1
  simp only [puts_some, updo]
  refine AOPS.nil ?_
  refine hK3 _ ?_
  refine AWP.block ?_
  refine AWP.seqk fun K4 hK4 => ?_
  refine AWP.region (AOPS.all (by simp (disch := first|omega|(simp only[ln];omega)) [idf_Wd']; rfl) ?_)
  refine hK4 _ ?_
  refine cond_ok _ (by simp (disch := first|omega|(simp only[ln];omega)); rfl) (fun h11 => ?_) (fun h11 => ?_)
  · try simp only [decide_eq_true_eq, decide_eq_false_iff_not] at h11
    refine AWP.seqk fun K5 hK5 => ?_
    refine AWP.region ?_
    refine AOPS.runk 1 (by simp (disch := first|omega|(simp only[ln];omega)) [List.take_succ_cons, List.take_zero, idf_Wd']; rfl) ?_
    simp only [List.drop_succ_cons, List.drop_zero]
    refine AOPS.old fun hold1 => ?_
    refine AOPS.acall (wide_ac l p2 id _ _ dl hl hp2 (by simp (disch := omega) [hH]) hold1) rfl rfl rfl hb161 (by simp (disch := first|omega|(simp only[ln];omega)) [idf_Wd']) (by simp (disch := first|omega|(simp only[ln];omega))) (by simp) ?_
    rintro _ _ nx3 ⟨⟨xa, rfl, xao⟩, ⟨p3, hp3, rfl⟩, hnx3⟩
    try simp only [] at hnx3
    clear hold1
    simp only [puts_some, updo]
    refine AOPS.runk 1 (by simp (disch := first|omega|(simp only[ln];omega)) [List.take_succ_cons, List.take_zero, idf_Wd']; rfl) ?_
    simp only [List.drop_succ_cons, List.drop_zero]
    refine AOPS.old fun hold3 => ?_
    refine AOPS.acall (wide_ac l p3 id _ _ dl hl hp3 (by simp (disch := omega) [hH]) hold3) rfl rfl rfl hb161 (by simp (disch := first|omega|(simp only[ln];omega)) [idf_Wd']) (by simp (disch := first|omega|(simp only[ln];omega))) (by simp) ?_
    rintro _ _ nx4 ⟨⟨xb, rfl, xbo⟩, ⟨p4, hp4, rfl⟩, hnx4⟩
    try simp only [] at hnx4
    clear hold3
    simp only [puts_some, updo]
    refine AOPS.runk 1 (by simp (disch := first|omega|(simp only[ln];omega)) [List.take_succ_cons, List.take_zero, idf_Wd']; rfl) ?_
    simp only [List.drop_succ_cons, List.drop_zero]
    refine AOPS.old fun hold5 => ?_
    refine AOPS.acall (wide_ac l p4 id _ _ dl hl hp4 (by simp (disch := omega) [hH]) hold5) rfl rfl rfl hb161 (by simp (disch := first|omega|(simp only[ln];omega)) [idf_Wd']) (by simp (disch := first|omega|(simp only[ln];omega))) (by simp) ?_
    rintro _ _ nx5 ⟨⟨xc, rfl, xco⟩, ⟨p5, hp5, rfl⟩, hnx5⟩
    try simp only [] at hnx5
    clear hold5
    simp only [puts_some, updo]
    refine AOPS.fcall (pointMakeS_fc xa xb xc xao xbo xco) rfl rfl rfl hb160 (by simp (disch := first|omega|(simp only[ln];omega)) [idf_Wd']) (by simp (disch := first|omega|(simp only[ln];omega))) (by simp) ?_
    simp only [puts_some, updo]
    refine AOPS.all (by simp (disch := first|omega|(simp only[ln];omega)) [idf_Wd']; rfl) ?_
    refine hK5 _ ?_
    refine AWP.seqk fun K6 hK6 => ?_
    refine AWP.region (AOPS.all (by simp (disch := first|omega|(simp only[ln];omega)) [idf_Wd']; rfl) ?_)
    refine hK6 _ ?_
    refine AWP.ret ?_
    exact hK _ _ _ _ _ trivial ((Fin.mk (r := .agg [.int .u64 (mkP xa.v xb.v xc.v).x.a, .int .u64 (mkP xa.v xb.v xc.v).x.b, .int .u64 (mkP xa.v xb.v xc.v).x.c, .int .u64 (mkP xa.v xb.v xc.v).x.d, .int .u64 (mkP xa.v xb.v xc.v).y.a, .int .u64 (mkP xa.v xb.v xc.v).y.b, .int .u64 (mkP xa.v xb.v xc.v).y.c, .int .u64 (mkP xa.v xb.v xc.v).y.d, .int .u64 (mkP xa.v xb.v xc.v).w.a, .int .u64 (mkP xa.v xb.v xc.v).w.b, .int .u64 (mkP xa.v xb.v xc.v).w.c, .int .u64 (mkP xa.v xb.v xc.v).w.d]) (by simp (disch := omega) [aRes, aResL, aRes1, idf_Wd'])).restr (fun i => decide (i < nx))) (⟨⟨mkP xa.v xb.v xc.v, rfl, mkP_ok _ _ _⟩, ⟨p5, hp5, by simp (disch := first | omega | (simp; done) | (simp; omega)) [hrestr_in, hrestr_out, hrestr_all hd, hupd_same]⟩, by first | omega | (simp at *; omega)⟩)
  · try simp only [decide_eq_true_eq, decide_eq_false_iff_not] at h11
    refine AWP.seqk fun K7 hK7 => ?_
    refine AWP.region (AOPS.all (by simp (disch := first|omega|(simp only[ln];omega)) [idf_Wd']; rfl) ?_)
    refine hK7 _ ?_
    refine cond_ok _ (by simp (disch := first|omega|(simp only[ln];omega)); rfl) (fun h24 => ?_) (fun h24 => ?_)
    · try simp only [decide_eq_true_eq, decide_eq_false_iff_not] at h24
      refine AWP.seqk fun K8 hK8 => ?_
      refine AWP.seqk fun K9 hK9 => ?_
      refine AWP.region ?_
      refine AOPS.runk 1 (by simp (disch := first|omega|(simp only[ln];omega)) [List.take_succ_cons, List.take_zero, idf_Wd']; rfl) ?_
      simp only [List.drop_succ_cons, List.drop_zero]
      refine AOPS.old fun hold1 => ?_
      refine AOPS.acall (once_ac 4 (by omega) (by omega) l p2 id _ _ dl hl hp2 (by simp (disch := omega) [hH]) hold1) rfl rfl rfl hb78 (by simp (disch := first|omega|(simp only[ln];omega)) [idf_Wd']) (by simp (disch := first|omega|(simp only[ln];omega))) (by simp) ?_
      rintro _ _ nx3 ⟨⟨b, rfl⟩, ⟨p3, hp3, rfl⟩, hnx3⟩
      try simp only [] at hnx3
      clear hold1
      simp only [puts_some, updo]
      refine AOPS.nil ?_
      refine hK9 _ ?_
      refine cond_ok (b) (by simp (disch := first|omega|(simp only[ln];omega))) (fun h27 => ?_) (fun h27 => ?_)
      · try simp only [decide_eq_true_eq, decide_eq_false_iff_not] at h27
        refine AWP.seqk fun K10 hK10 => ?_
        refine AWP.region ?_
        refine AOPS.runk 1 (by simp (disch := first|omega|(simp only[ln];omega)) [List.take_succ_cons, List.take_zero, idf_Wd']; rfl) ?_
        simp only [List.drop_succ_cons, List.drop_zero]
        refine AOPS.old fun hold1 => ?_
        refine AOPS.acall (wide_ac l p3 id _ _ dl hl hp3 (by simp (disch := omega) [hH]) hold1) rfl rfl rfl hb161 (by simp (disch := first|omega|(simp only[ln];omega)) [idf_Wd']) (by simp (disch := first|omega|(simp only[ln];omega))) (by simp) ?_
        rintro _ _ nx4 ⟨⟨xa, rfl, xao⟩, ⟨p4, hp4, rfl⟩, hnx4⟩
        try simp only [] at hnx4
        clear hold1
        simp only [puts_some, updo]
        refine AOPS.runk 1 (by simp (disch := first|omega|(simp only[ln];omega)) [List.take_succ_cons, List.take_zero, idf_Wd']; rfl) ?_
        simp only [List.drop_succ_cons, List.drop_zero]
        refine AOPS.old fun hold3 => ?_
        refine AOPS.acall (wide_ac l p4 id _ _ dl hl hp4 (by simp (disch := omega) [hH]) hold3) rfl rfl rfl hb161 (by simp (disch := first|omega|(simp only[ln];omega)) [idf_Wd']) (by simp (disch := first|omega|(simp only[ln];omega))) (by simp) ?_
        rintro _ _ nx5 ⟨⟨xb, rfl, xbo⟩, ⟨p5, hp5, rfl⟩, hnx5⟩
        try simp only [] at hnx5
        clear hold3
        simp only [puts_some, updo]
        refine AOPS.runk 1 (by simp (disch := first|omega|(simp only[ln];omega)) [List.take_succ_cons, List.take_zero, idf_Wd']; rfl) ?_
        simp only [List.drop_succ_cons, List.drop_zero]
        refine AOPS.old fun hold5 => ?_
        refine AOPS.acall (wide_ac l p5 id _ _ dl hl hp5 (by simp (disch := omega) [hH]) hold5) rfl rfl rfl hb161 (by simp (disch := first|omega|(simp only[ln];omega)) [idf_Wd']) (by simp (disch := first|omega|(simp only[ln];omega))) (by simp) ?_
        rintro _ _ nx6 ⟨⟨xc, rfl, xco⟩, ⟨p6, hp6, rfl⟩, hnx6⟩
        try simp only [] at hnx6
        clear hold5
        simp only [puts_some, updo]
        refine AOPS.all (by simp (disch := first|omega|(simp only[ln];omega)) [idf_Wd']; rfl) ?_
        refine hK10 _ ?_
        refine AWP.ret ?_
        exact hK _ _ _ _ _ trivial ((Fin.mk (r := .agg [.int .u64 ((⟨xa, xb, xc⟩ : Pt)).x.a, .int .u64 ((⟨xa, xb, xc⟩ : Pt)).x.b, .int .u64 ((⟨xa, xb, xc⟩ : Pt)).x.c, .int .u64 ((⟨xa, xb, xc⟩ : Pt)).x.d, .int .u64 ((⟨xa, xb, xc⟩ : Pt)).y.a, .int .u64 ((⟨xa, xb, xc⟩ : Pt)).y.b, .int .u64 ((⟨xa, xb, xc⟩ : Pt)).y.c, .int .u64 ((⟨xa, xb, xc⟩ : Pt)).y.d, .int .u64 ((⟨xa, xb, xc⟩ : Pt)).w.a, .int .u64 ((⟨xa, xb, xc⟩ : Pt)).w.b, .int .u64 ((⟨xa, xb, xc⟩ : Pt)).w.c, .int .u64 ((⟨xa, xb, xc⟩ : Pt)).w.d]) (by simp (disch := omega) [aRes, aResL, aRes1, idf_Wd'])).restr (fun i => decide (i < nx))) (⟨⟨(⟨xa, xb, xc⟩ : Pt), rfl, ⟨xao, xbo, xco⟩⟩, ⟨p6, hp6, by simp (disch := first | omega | (simp; done) | (simp; omega)) [hrestr_in, hrestr_out, hrestr_all hd, hupd_same]⟩, by first | omega | (simp at *; omega)⟩)
      · try simp only [decide_eq_true_eq, decide_eq_false_iff_not] at h27
        refine AWP.skip ?_
        refine hK8 _ ?_
        refine AWP.seqk fun K11 hK11 => ?_
        refine AWP.region ?_
        refine AOPS.runk 1 (by simp (disch := first|omega|(simp only[ln];omega)) [List.take_succ_cons, List.take_zero, idf_Wd', IntKind.bits, hfd]; rfl) ?_
        simp only [List.drop_succ_cons, List.drop_zero]
        refine AOPS.old fun hold1 => ?_
        refine AOPS.acall (word_ac l p3 id _ _ dl hl hp3 (by simp (disch := omega) [hH]) hold1) rfl rfl rfl hb163 (by simp (disch := first|omega|(simp only[ln];omega)) [idf_Wd', IntKind.bits, hfd]) (by simp (disch := first|omega|(simp only[ln];omega)) [IntKind.bits, hfd]) (by simp) ?_
        rintro _ _ nx4 ⟨⟨wa, rfl, wau⟩, ⟨p4, hp4, rfl⟩, hnx4⟩
        try simp only [] at hnx4
        clear hold1
        have ia := wrap_I64 wa
        simp only [puts_some, updo]
        refine AOPS.runk 1 (by simp (disch := first|omega|(simp only[ln];omega)) [List.take_succ_cons, List.take_zero, idf_Wd', IntKind.bits, hfd]; rfl) ?_
        simp only [List.drop_succ_cons, List.drop_zero]
        refine AOPS.fcall (wideOfS_fc (IntKind.i64.wrap wa) ia.1 ia.2) rfl rfl rfl hb162 (by simp (disch := first|omega|(simp only[ln];omega)) [idf_Wd', IntKind.bits, hfd]) (by simp (disch := first|omega|(simp only[ln];omega)) [IntKind.bits, hfd]) (by simp) ?_
        simp only [puts_some, updo]
        refine AOPS.runk 1 (by simp (disch := first|omega|(simp only[ln];omega)) [List.take_succ_cons, List.take_zero, idf_Wd', IntKind.bits, hfd]; rfl) ?_
        simp only [List.drop_succ_cons, List.drop_zero]
        refine AOPS.old fun hold5 => ?_
        refine AOPS.acall (word_ac l p4 id _ _ dl hl hp4 (by simp (disch := omega) [hH]) hold5) rfl rfl rfl hb163 (by simp (disch := first|omega|(simp only[ln];omega)) [idf_Wd', IntKind.bits, hfd]) (by simp (disch := first|omega|(simp only[ln];omega)) [IntKind.bits, hfd]) (by simp) ?_
        rintro _ _ nx5 ⟨⟨wb, rfl, wbu⟩, ⟨p5, hp5, rfl⟩, hnx5⟩
        try simp only [] at hnx5
        clear hold5
        have ib := wrap_I64 wb
        simp only [puts_some, updo]
        refine AOPS.runk 1 (by simp (disch := first|omega|(simp only[ln];omega)) [List.take_succ_cons, List.take_zero, idf_Wd', IntKind.bits, hfd]; rfl) ?_
        simp only [List.drop_succ_cons, List.drop_zero]
        refine AOPS.fcall (wideOfS_fc (IntKind.i64.wrap wb) ib.1 ib.2) rfl rfl rfl hb162 (by simp (disch := first|omega|(simp only[ln];omega)) [idf_Wd', IntKind.bits, hfd]) (by simp (disch := first|omega|(simp only[ln];omega)) [IntKind.bits, hfd]) (by simp) ?_
        simp only [puts_some, updo]
        refine AOPS.runk 1 (by simp (disch := first|omega|(simp only[ln];omega)) [List.take_succ_cons, List.take_zero, idf_Wd', IntKind.bits, hfd]; rfl) ?_
        simp only [List.drop_succ_cons, List.drop_zero]
        refine AOPS.old fun hold9 => ?_
        refine AOPS.acall (word_ac l p5 id _ _ dl hl hp5 (by simp (disch := omega) [hH]) hold9) rfl rfl rfl hb163 (by simp (disch := first|omega|(simp only[ln];omega)) [idf_Wd', IntKind.bits, hfd]) (by simp (disch := first|omega|(simp only[ln];omega)) [IntKind.bits, hfd]) (by simp) ?_
        rintro _ _ nx6 ⟨⟨wc, rfl, wcu⟩, ⟨p6, hp6, rfl⟩, hnx6⟩
        try simp only [] at hnx6
        clear hold9
        have fdw : wc.fdiv 2 = wc / 2 := Int.fdiv_eq_ediv_of_nonneg _ (by omega)
        obtain ⟨wcu0, wcu1⟩ := wcu
        have ic := wrap_I64 (1 + wc / 2)
        simp only [puts_some, updo]
        refine AOPS.runk 3 (by simp (disch := first|omega|(simp only[ln];omega)) [List.take_succ_cons, List.take_zero, idf_Wd', IntKind.bits, hfd]; rfl) ?_
        simp only [List.drop_succ_cons, List.drop_zero]
        refine AOPS.fcall (wideOfS_fc (IntKind.i64.wrap (1 + wc / 2)) ic.1 ic.2) rfl rfl rfl hb162 (by simp (disch := first|omega|(simp only[ln];omega)) [idf_Wd', IntKind.bits, hfd]) (by simp (disch := first|omega|(simp only[ln];omega)) [IntKind.bits, hfd]) (by simp) ?_
        simp only [puts_some, updo]
        refine AOPS.fcall (pointMakeS_fc (W4z (IntKind.i64.wrap wa)) (W4z (IntKind.i64.wrap wb)) (W4z (IntKind.i64.wrap (1 + wc / 2))) (W4z_ok _) (W4z_ok _) (W4z_ok _)) rfl rfl rfl hb160 (by simp (disch := first|omega|(simp only[ln];omega)) [idf_Wd', IntKind.bits, hfd]) (by simp (disch := first|omega|(simp only[ln];omega)) [IntKind.bits, hfd]) (by simp) ?_
        simp only [puts_some, updo]
        refine AOPS.all (by simp (disch := first|omega|(simp only[ln];omega)) [idf_Wd', IntKind.bits, hfd]; rfl) ?_
        refine hK11 _ ?_
        refine AWP.seqk fun K12 hK12 => ?_
        refine AWP.region (AOPS.all (by simp (disch := first|omega|(simp only[ln];omega)) [idf_Wd']; rfl) ?_)
        refine hK12 _ ?_
        refine AWP.ret ?_
        exact hK _ _ _ _ _ trivial ((Fin.mk (r := .agg [.int .u64 (mkP (W4z (IntKind.i64.wrap wa)).v (W4z (IntKind.i64.wrap wb)).v (W4z (IntKind.i64.wrap (1 + wc / 2))).v).x.a, .int .u64 (mkP (W4z (IntKind.i64.wrap wa)).v (W4z (IntKind.i64.wrap wb)).v (W4z (IntKind.i64.wrap (1 + wc / 2))).v).x.b, .int .u64 (mkP (W4z (IntKind.i64.wrap wa)).v (W4z (IntKind.i64.wrap wb)).v (W4z (IntKind.i64.wrap (1 + wc / 2))).v).x.c, .int .u64 (mkP (W4z (IntKind.i64.wrap wa)).v (W4z (IntKind.i64.wrap wb)).v (W4z (IntKind.i64.wrap (1 + wc / 2))).v).x.d, .int .u64 (mkP (W4z (IntKind.i64.wrap wa)).v (W4z (IntKind.i64.wrap wb)).v (W4z (IntKind.i64.wrap (1 + wc / 2))).v).y.a, .int .u64 (mkP (W4z (IntKind.i64.wrap wa)).v (W4z (IntKind.i64.wrap wb)).v (W4z (IntKind.i64.wrap (1 + wc / 2))).v).y.b, .int .u64 (mkP (W4z (IntKind.i64.wrap wa)).v (W4z (IntKind.i64.wrap wb)).v (W4z (IntKind.i64.wrap (1 + wc / 2))).v).y.c, .int .u64 (mkP (W4z (IntKind.i64.wrap wa)).v (W4z (IntKind.i64.wrap wb)).v (W4z (IntKind.i64.wrap (1 + wc / 2))).v).y.d, .int .u64 (mkP (W4z (IntKind.i64.wrap wa)).v (W4z (IntKind.i64.wrap wb)).v (W4z (IntKind.i64.wrap (1 + wc / 2))).v).w.a, .int .u64 (mkP (W4z (IntKind.i64.wrap wa)).v (W4z (IntKind.i64.wrap wb)).v (W4z (IntKind.i64.wrap (1 + wc / 2))).v).w.b, .int .u64 (mkP (W4z (IntKind.i64.wrap wa)).v (W4z (IntKind.i64.wrap wb)).v (W4z (IntKind.i64.wrap (1 + wc / 2))).v).w.c, .int .u64 (mkP (W4z (IntKind.i64.wrap wa)).v (W4z (IntKind.i64.wrap wb)).v (W4z (IntKind.i64.wrap (1 + wc / 2))).v).w.d]) (by simp (disch := omega) [aRes, aResL, aRes1, idf_Wd'])).restr (fun i => decide (i < nx))) (⟨⟨mkP (W4z (IntKind.i64.wrap wa)).v (W4z (IntKind.i64.wrap wb)).v (W4z (IntKind.i64.wrap (1 + wc / 2))).v, rfl, mkP_ok _ _ _⟩, ⟨p6, hp6, by simp (disch := first | omega | (simp; done) | (simp; omega)) [hrestr_in, hrestr_out, hrestr_all hd, hupd_same]⟩, by first | omega | (simp at *; omega)⟩)
    · try simp only [decide_eq_true_eq, decide_eq_false_iff_not] at h24
      refine AWP.seqk fun K13 hK13 => ?_
      refine AWP.seqk fun K14 hK14 => ?_
      refine AWP.region (AOPS.all (by simp (disch := first|omega|(simp only[ln];omega)) [idf_Wd']; rfl) ?_)
      refine hK14 _ ?_
      refine cond_ok _ (by simp (disch := first|omega|(simp only[ln];omega)); rfl) (fun h54 => ?_) (fun h54 => ?_)
      · try simp only [decide_eq_true_eq, decide_eq_false_iff_not] at h54
        refine AWP.skip ?_
        refine hK13 _ ?_
        refine cond_ok _ (by simp (disch := first|omega|(simp only[ln];omega)); rfl) (fun h54 => ?_) (fun h54 => ?_)
        · try simp only [decide_eq_true_eq, decide_eq_false_iff_not] at h54
          refine AWP.seqk fun K15 hK15 => ?_
          refine AWP.region ?_
          refine AOPS.runk 1 (by simp (disch := first|omega|(simp only[ln];omega)) [List.take_succ_cons, List.take_zero, idf_Wd']; rfl) ?_
          simp only [List.drop_succ_cons, List.drop_zero]
          refine AOPS.old fun hold1 => ?_
          refine AOPS.acall (near_ac (-40) (40) (by omega) (by omega) (by omega) l p2 id _ _ dl hl hp2 (by simp (disch := omega) [hH]) hold1) rfl rfl rfl hb164 (by simp (disch := first|omega|(simp only[ln];omega)) [idf_Wd']) (by simp (disch := first|omega|(simp only[ln];omega))) (by simp) ?_
          rintro _ _ nx3 ⟨⟨na, rfl, na0, na1⟩, ⟨p3, hp3, rfl⟩, hnx3⟩
          try simp only [] at hnx3
          clear hold1
          simp only [puts_some, updo]
          refine AOPS.fcall (wideOfS_fc na (by omega) (by omega)) rfl rfl rfl hb162 (by simp (disch := first|omega|(simp only[ln];omega)) [idf_Wd']) (by simp (disch := first|omega|(simp only[ln];omega))) (by simp) ?_
          simp only [puts_some, updo]
          refine AOPS.runk 1 (by simp (disch := first|omega|(simp only[ln];omega)) [List.take_succ_cons, List.take_zero, idf_Wd']; rfl) ?_
          simp only [List.drop_succ_cons, List.drop_zero]
          refine AOPS.old fun hold4 => ?_
          refine AOPS.acall (near_ac (-40) (40) (by omega) (by omega) (by omega) l p3 id _ _ dl hl hp3 (by simp (disch := omega) [hH]) hold4) rfl rfl rfl hb164 (by simp (disch := first|omega|(simp only[ln];omega)) [idf_Wd']) (by simp (disch := first|omega|(simp only[ln];omega))) (by simp) ?_
          rintro _ _ nx4 ⟨⟨nb, rfl, nb0, nb1⟩, ⟨p4, hp4, rfl⟩, hnx4⟩
          try simp only [] at hnx4
          clear hold4
          simp only [puts_some, updo]
          refine AOPS.fcall (wideOfS_fc nb (by omega) (by omega)) rfl rfl rfl hb162 (by simp (disch := first|omega|(simp only[ln];omega)) [idf_Wd']) (by simp (disch := first|omega|(simp only[ln];omega))) (by simp) ?_
          simp only [puts_some, updo]
          refine AOPS.runk 1 (by simp (disch := first|omega|(simp only[ln];omega)) [List.take_succ_cons, List.take_zero, idf_Wd']; rfl) ?_
          simp only [List.drop_succ_cons, List.drop_zero]
          refine AOPS.old fun hold7 => ?_
          refine AOPS.acall (near_ac (0) (9) (by omega) (by omega) (by omega) l p4 id _ _ dl hl hp4 (by simp (disch := omega) [hH]) hold7) rfl rfl rfl hb164 (by simp (disch := first|omega|(simp only[ln];omega)) [idf_Wd']) (by simp (disch := first|omega|(simp only[ln];omega))) (by simp) ?_
          rintro _ _ nx5 ⟨⟨nc, rfl, nc0, nc1⟩, ⟨p5, hp5, rfl⟩, hnx5⟩
          try simp only [] at hnx5
          clear hold7
          simp only [puts_some, updo]
          refine AOPS.runk 1 (by simp (disch := first|omega|(simp only[ln];omega)) [List.take_succ_cons, List.take_zero, idf_Wd']; rfl) ?_
          simp only [List.drop_succ_cons, List.drop_zero]
          refine AOPS.fcall (wideOfS_fc (1 + nc) (by omega) (by omega)) rfl rfl rfl hb162 (by simp (disch := first|omega|(simp only[ln];omega)) [idf_Wd']) (by simp (disch := first|omega|(simp only[ln];omega))) (by simp) ?_
          simp only [puts_some, updo]
          refine AOPS.fcall (pointMakeS_fc (W4z na) (W4z nb) (W4z (1 + nc)) (W4z_ok _) (W4z_ok _) (W4z_ok _)) rfl rfl rfl hb160 (by simp (disch := first|omega|(simp only[ln];omega)) [idf_Wd']) (by simp (disch := first|omega|(simp only[ln];omega))) (by simp) ?_
          simp only [puts_some, updo]
          refine AOPS.all (by simp (disch := first|omega|(simp only[ln];omega)) [idf_Wd']; rfl) ?_
          refine hK15 _ ?_
          refine AWP.seqk fun K16 hK16 => ?_
          refine AWP.region (AOPS.all (by simp (disch := first|omega|(simp only[ln];omega)) [idf_Wd']; rfl) ?_)
          refine hK16 _ ?_
          refine AWP.ret ?_
          exact hK _ _ _ _ _ trivial ((Fin.mk (r := .agg [.int .u64 (mkP (W4z na).v (W4z nb).v (W4z (1 + nc)).v).x.a, .int .u64 (mkP (W4z na).v (W4z nb).v (W4z (1 + nc)).v).x.b, .int .u64 (mkP (W4z na).v (W4z nb).v (W4z (1 + nc)).v).x.c, .int .u64 (mkP (W4z na).v (W4z nb).v (W4z (1 + nc)).v).x.d, .int .u64 (mkP (W4z na).v (W4z nb).v (W4z (1 + nc)).v).y.a, .int .u64 (mkP (W4z na).v (W4z nb).v (W4z (1 + nc)).v).y.b, .int .u64 (mkP (W4z na).v (W4z nb).v (W4z (1 + nc)).v).y.c, .int .u64 (mkP (W4z na).v (W4z nb).v (W4z (1 + nc)).v).y.d, .int .u64 (mkP (W4z na).v (W4z nb).v (W4z (1 + nc)).v).w.a, .int .u64 (mkP (W4z na).v (W4z nb).v (W4z (1 + nc)).v).w.b, .int .u64 (mkP (W4z na).v (W4z nb).v (W4z (1 + nc)).v).w.c, .int .u64 (mkP (W4z na).v (W4z nb).v (W4z (1 + nc)).v).w.d]) (by simp (disch := omega) [aRes, aResL, aRes1, idf_Wd'])).restr (fun i => decide (i < nx))) (⟨⟨mkP (W4z na).v (W4z nb).v (W4z (1 + nc)).v, rfl, mkP_ok _ _ _⟩, ⟨p5, hp5, by simp (disch := first | omega | (simp; done) | (simp; omega)) [hrestr_in, hrestr_out, hrestr_all hd, hupd_same]⟩, by first | omega | (simp at *; omega)⟩)
        · try simp only [decide_eq_true_eq, decide_eq_false_iff_not] at h54
          refine AWP.seqk fun K17 hK17 => ?_
          refine AWP.region (AOPS.all (by simp (disch := first|omega|(simp only[ln];omega)) [idf_Wd']; rfl) ?_)
          refine hK17 _ ?_
          refine cond_ok _ (by simp (disch := first|omega|(simp only[ln];omega)); rfl) (fun h73 => ?_) (fun h73 => ?_)
          · try simp only [decide_eq_true_eq, decide_eq_false_iff_not] at h73
            refine AWP.seqk fun K18 hK18 => ?_
            refine AWP.region ?_
            refine AOPS.runk 1 (by simp (disch := first|omega|(simp only[ln];omega)) [List.take_succ_cons, List.take_zero, idf_Wd']; rfl) ?_
            simp only [List.drop_succ_cons, List.drop_zero]
            refine AOPS.old fun hold1 => ?_
            refine AOPS.acall (near_ac (-1000000) (1000000) (by omega) (by omega) (by omega) l p2 id _ _ dl hl hp2 (by simp (disch := omega) [hH]) hold1) rfl rfl rfl hb164 (by simp (disch := first|omega|(simp only[ln];omega)) [idf_Wd']) (by simp (disch := first|omega|(simp only[ln];omega))) (by simp) ?_
            rintro _ _ nx3 ⟨⟨na, rfl, na0, na1⟩, ⟨p3, hp3, rfl⟩, hnx3⟩
            try simp only [] at hnx3
            clear hold1
            simp only [puts_some, updo]
            refine AOPS.runk 1 (by simp (disch := first|omega|(simp only[ln];omega)) [List.take_succ_cons, List.take_zero, idf_Wd']; rfl) ?_
            simp only [List.drop_succ_cons, List.drop_zero]
            refine AOPS.old fun hold3 => ?_
            refine AOPS.acall (near_ac (-1000000) (1000000) (by omega) (by omega) (by omega) l p3 id _ _ dl hl hp3 (by simp (disch := omega) [hH]) hold3) rfl rfl rfl hb164 (by simp (disch := first|omega|(simp only[ln];omega)) [idf_Wd']) (by simp (disch := first|omega|(simp only[ln];omega))) (by simp) ?_
            rintro _ _ nx4 ⟨⟨nb, rfl, nb0, nb1⟩, ⟨p4, hp4, rfl⟩, hnx4⟩
            try simp only [] at hnx4
            clear hold3
            simp only [puts_some, updo]
            refine AOPS.runk 1 (by simp (disch := first|omega|(simp only[ln];omega)) [List.take_succ_cons, List.take_zero, idf_Wd']; rfl) ?_
            simp only [List.drop_succ_cons, List.drop_zero]
            refine AOPS.fcall (pointOfS_fc na nb (by omega) (by omega) (by omega) (by omega)) rfl rfl rfl hb165 (by simp (disch := first|omega|(simp only[ln];omega)) [idf_Wd']) (by simp (disch := first|omega|(simp only[ln];omega))) (by simp) ?_
            simp only [puts_some, updo]
            refine AOPS.all (by simp (disch := first|omega|(simp only[ln];omega)) [idf_Wd']; rfl) ?_
            refine hK18 _ ?_
            refine AWP.ret ?_
            exact hK _ _ _ _ _ trivial ((Fin.mk (r := .agg [.int .u64 (pt3 na nb 1).x.a, .int .u64 (pt3 na nb 1).x.b, .int .u64 (pt3 na nb 1).x.c, .int .u64 (pt3 na nb 1).x.d, .int .u64 (pt3 na nb 1).y.a, .int .u64 (pt3 na nb 1).y.b, .int .u64 (pt3 na nb 1).y.c, .int .u64 (pt3 na nb 1).y.d, .int .u64 (pt3 na nb 1).w.a, .int .u64 (pt3 na nb 1).w.b, .int .u64 (pt3 na nb 1).w.c, .int .u64 (pt3 na nb 1).w.d]) (by simp (disch := omega) [aRes, aResL, aRes1, idf_Wd'])).restr (fun i => decide (i < nx))) (⟨⟨pt3 na nb 1, rfl, pt3_ok _ _ _⟩, ⟨p4, hp4, by simp (disch := first | omega | (simp; done) | (simp; omega)) [hrestr_in, hrestr_out, hrestr_all hd, hupd_same]⟩, by first | omega | (simp at *; omega)⟩)
          · try simp only [decide_eq_true_eq, decide_eq_false_iff_not] at h73
            refine AWP.skip ?_
            refine hK2 _ ?_
            refine AWP.seqk fun K19 hK19 => ?_
            refine AWP.region ?_
            refine AOPS.runk 1 (by simp (disch := first|omega|(simp only[ln];omega)) [List.take_succ_cons, List.take_zero, idf_Wd']; rfl) ?_
            simp only [List.drop_succ_cons, List.drop_zero]
            refine AOPS.old fun hold1 => ?_
            refine AOPS.acall (spot_ac l p2 id _ _ dl hl hp2 (by simp (disch := omega) [hH]) hold1) rfl rfl rfl hb130 (by simp (disch := first|omega|(simp only[ln];omega)) [idf_Wd']) (by simp (disch := first|omega|(simp only[ln];omega))) (by simp) ?_
            rintro _ _ nx3 ⟨⟨na, nb, rfl, na0, na1, nb0, nb1⟩, ⟨p3, hp3, rfl⟩, hnx3⟩
            try simp only [] at hnx3
            clear hold1
            simp only [puts_some, updo]
            refine AOPS.fcall (pointOfS_fc na nb (by omega) (by omega) (by omega) (by omega)) rfl rfl rfl hb165 (by simp (disch := first|omega|(simp only[ln];omega)) [idf_Wd']) (by simp (disch := first|omega|(simp only[ln];omega))) (by simp) ?_
            simp only [puts_some, updo]
            refine AOPS.all (by simp (disch := first|omega|(simp only[ln];omega)) [idf_Wd']; rfl) ?_
            refine hK19 _ ?_
            refine AWP.ret ?_
            exact hK _ _ _ _ _ trivial ((Fin.mk (r := .agg [.int .u64 (pt3 na nb 1).x.a, .int .u64 (pt3 na nb 1).x.b, .int .u64 (pt3 na nb 1).x.c, .int .u64 (pt3 na nb 1).x.d, .int .u64 (pt3 na nb 1).y.a, .int .u64 (pt3 na nb 1).y.b, .int .u64 (pt3 na nb 1).y.c, .int .u64 (pt3 na nb 1).y.d, .int .u64 (pt3 na nb 1).w.a, .int .u64 (pt3 na nb 1).w.b, .int .u64 (pt3 na nb 1).w.c, .int .u64 (pt3 na nb 1).w.d]) (by simp (disch := omega) [aRes, aResL, aRes1, idf_Wd'])).restr (fun i => decide (i < nx))) (⟨⟨pt3 na nb 1, rfl, pt3_ok _ _ _⟩, ⟨p3, hp3, by simp (disch := first | omega | (simp; done) | (simp; omega)) [hrestr_in, hrestr_out, hrestr_all hd, hupd_same]⟩, by first | omega | (simp at *; omega)⟩)
      · try simp only [decide_eq_true_eq, decide_eq_false_iff_not] at h54
        refine AWP.seqk fun K20 hK20 => ?_
        refine AWP.region (AOPS.all (by simp (disch := first|omega|(simp only[ln];omega)) [idf_Wd']; rfl) ?_)
        refine hK20 _ ?_
        refine cond_ok _ (by simp (disch := first|omega|(simp only[ln];omega)); rfl) (fun h54 => ?_) (fun h54 => ?_)
        · try simp only [decide_eq_true_eq, decide_eq_false_iff_not] at h54
          refine AWP.skip ?_
          refine hK13 _ ?_
          refine cond_ok _ (by simp (disch := first|omega|(simp only[ln];omega)); rfl) (fun h54 => ?_) (fun h54 => ?_)
          · try simp only [decide_eq_true_eq, decide_eq_false_iff_not] at h54
            refine AWP.seqk fun K21 hK21 => ?_
            refine AWP.region ?_
            refine AOPS.runk 1 (by simp (disch := first|omega|(simp only[ln];omega)) [List.take_succ_cons, List.take_zero, idf_Wd']; rfl) ?_
            simp only [List.drop_succ_cons, List.drop_zero]
            refine AOPS.old fun hold1 => ?_
            refine AOPS.acall (near_ac (-40) (40) (by omega) (by omega) (by omega) l p2 id _ _ dl hl hp2 (by simp (disch := omega) [hH]) hold1) rfl rfl rfl hb164 (by simp (disch := first|omega|(simp only[ln];omega)) [idf_Wd']) (by simp (disch := first|omega|(simp only[ln];omega))) (by simp) ?_
            rintro _ _ nx3 ⟨⟨na, rfl, na0, na1⟩, ⟨p3, hp3, rfl⟩, hnx3⟩
            try simp only [] at hnx3
            clear hold1
            simp only [puts_some, updo]
            refine AOPS.fcall (wideOfS_fc na (by omega) (by omega)) rfl rfl rfl hb162 (by simp (disch := first|omega|(simp only[ln];omega)) [idf_Wd']) (by simp (disch := first|omega|(simp only[ln];omega))) (by simp) ?_
            simp only [puts_some, updo]
            refine AOPS.runk 1 (by simp (disch := first|omega|(simp only[ln];omega)) [List.take_succ_cons, List.take_zero, idf_Wd']; rfl) ?_
            simp only [List.drop_succ_cons, List.drop_zero]
            refine AOPS.old fun hold4 => ?_
            refine AOPS.acall (near_ac (-40) (40) (by omega) (by omega) (by omega) l p3 id _ _ dl hl hp3 (by simp (disch := omega) [hH]) hold4) rfl rfl rfl hb164 (by simp (disch := first|omega|(simp only[ln];omega)) [idf_Wd']) (by simp (disch := first|omega|(simp only[ln];omega))) (by simp) ?_
            rintro _ _ nx4 ⟨⟨nb, rfl, nb0, nb1⟩, ⟨p4, hp4, rfl⟩, hnx4⟩
            try simp only [] at hnx4
            clear hold4
            simp only [puts_some, updo]
            refine AOPS.fcall (wideOfS_fc nb (by omega) (by omega)) rfl rfl rfl hb162 (by simp (disch := first|omega|(simp only[ln];omega)) [idf_Wd']) (by simp (disch := first|omega|(simp only[ln];omega))) (by simp) ?_
            simp only [puts_some, updo]
            refine AOPS.runk 1 (by simp (disch := first|omega|(simp only[ln];omega)) [List.take_succ_cons, List.take_zero, idf_Wd']; rfl) ?_
            simp only [List.drop_succ_cons, List.drop_zero]
            refine AOPS.old fun hold7 => ?_
            refine AOPS.acall (near_ac (0) (9) (by omega) (by omega) (by omega) l p4 id _ _ dl hl hp4 (by simp (disch := omega) [hH]) hold7) rfl rfl rfl hb164 (by simp (disch := first|omega|(simp only[ln];omega)) [idf_Wd']) (by simp (disch := first|omega|(simp only[ln];omega))) (by simp) ?_
            rintro _ _ nx5 ⟨⟨nc, rfl, nc0, nc1⟩, ⟨p5, hp5, rfl⟩, hnx5⟩
            try simp only [] at hnx5
            clear hold7
            simp only [puts_some, updo]
            refine AOPS.runk 1 (by simp (disch := first|omega|(simp only[ln];omega)) [List.take_succ_cons, List.take_zero, idf_Wd']; rfl) ?_
            simp only [List.drop_succ_cons, List.drop_zero]
            refine AOPS.fcall (wideOfS_fc (1 + nc) (by omega) (by omega)) rfl rfl rfl hb162 (by simp (disch := first|omega|(simp only[ln];omega)) [idf_Wd']) (by simp (disch := first|omega|(simp only[ln];omega))) (by simp) ?_
            simp only [puts_some, updo]
            refine AOPS.fcall (pointMakeS_fc (W4z na) (W4z nb) (W4z (1 + nc)) (W4z_ok _) (W4z_ok _) (W4z_ok _)) rfl rfl rfl hb160 (by simp (disch := first|omega|(simp only[ln];omega)) [idf_Wd']) (by simp (disch := first|omega|(simp only[ln];omega))) (by simp) ?_
            simp only [puts_some, updo]
            refine AOPS.all (by simp (disch := first|omega|(simp only[ln];omega)) [idf_Wd']; rfl) ?_
            refine hK21 _ ?_
            refine AWP.seqk fun K22 hK22 => ?_
            refine AWP.region (AOPS.all (by simp (disch := first|omega|(simp only[ln];omega)) [idf_Wd']; rfl) ?_)
            refine hK22 _ ?_
            refine AWP.ret ?_
            exact hK _ _ _ _ _ trivial ((Fin.mk (r := .agg [.int .u64 (mkP (W4z na).v (W4z nb).v (W4z (1 + nc)).v).x.a, .int .u64 (mkP (W4z na).v (W4z nb).v (W4z (1 + nc)).v).x.b, .int .u64 (mkP (W4z na).v (W4z nb).v (W4z (1 + nc)).v).x.c, .int .u64 (mkP (W4z na).v (W4z nb).v (W4z (1 + nc)).v).x.d, .int .u64 (mkP (W4z na).v (W4z nb).v (W4z (1 + nc)).v).y.a, .int .u64 (mkP (W4z na).v (W4z nb).v (W4z (1 + nc)).v).y.b, .int .u64 (mkP (W4z na).v (W4z nb).v (W4z (1 + nc)).v).y.c, .int .u64 (mkP (W4z na).v (W4z nb).v (W4z (1 + nc)).v).y.d, .int .u64 (mkP (W4z na).v (W4z nb).v (W4z (1 + nc)).v).w.a, .int .u64 (mkP (W4z na).v (W4z nb).v (W4z (1 + nc)).v).w.b, .int .u64 (mkP (W4z na).v (W4z nb).v (W4z (1 + nc)).v).w.c, .int .u64 (mkP (W4z na).v (W4z nb).v (W4z (1 + nc)).v).w.d]) (by simp (disch := omega) [aRes, aResL, aRes1, idf_Wd'])).restr (fun i => decide (i < nx))) (⟨⟨mkP (W4z na).v (W4z nb).v (W4z (1 + nc)).v, rfl, mkP_ok _ _ _⟩, ⟨p5, hp5, by simp (disch := first | omega | (simp; done) | (simp; omega)) [hrestr_in, hrestr_out, hrestr_all hd, hupd_same]⟩, by first | omega | (simp at *; omega)⟩)
          · try simp only [decide_eq_true_eq, decide_eq_false_iff_not] at h54
            refine AWP.seqk fun K23 hK23 => ?_
            refine AWP.region (AOPS.all (by simp (disch := first|omega|(simp only[ln];omega)) [idf_Wd']; rfl) ?_)
            refine hK23 _ ?_
            refine cond_ok _ (by simp (disch := first|omega|(simp only[ln];omega)); rfl) (fun h73 => ?_) (fun h73 => ?_)
            · try simp only [decide_eq_true_eq, decide_eq_false_iff_not] at h73
              refine AWP.seqk fun K24 hK24 => ?_
              refine AWP.region ?_
              refine AOPS.runk 1 (by simp (disch := first|omega|(simp only[ln];omega)) [List.take_succ_cons, List.take_zero, idf_Wd']; rfl) ?_
              simp only [List.drop_succ_cons, List.drop_zero]
              refine AOPS.old fun hold1 => ?_
              refine AOPS.acall (near_ac (-1000000) (1000000) (by omega) (by omega) (by omega) l p2 id _ _ dl hl hp2 (by simp (disch := omega) [hH]) hold1) rfl rfl rfl hb164 (by simp (disch := first|omega|(simp only[ln];omega)) [idf_Wd']) (by simp (disch := first|omega|(simp only[ln];omega))) (by simp) ?_
              rintro _ _ nx3 ⟨⟨na, rfl, na0, na1⟩, ⟨p3, hp3, rfl⟩, hnx3⟩
              try simp only [] at hnx3
              clear hold1
              simp only [puts_some, updo]
              refine AOPS.runk 1 (by simp (disch := first|omega|(simp only[ln];omega)) [List.take_succ_cons, List.take_zero, idf_Wd']; rfl) ?_
              simp only [List.drop_succ_cons, List.drop_zero]
              refine AOPS.old fun hold3 => ?_
              refine AOPS.acall (near_ac (-1000000) (1000000) (by omega) (by omega) (by omega) l p3 id _ _ dl hl hp3 (by simp (disch := omega) [hH]) hold3) rfl rfl rfl hb164 (by simp (disch := first|omega|(simp only[ln];omega)) [idf_Wd']) (by simp (disch := first|omega|(simp only[ln];omega))) (by simp) ?_
              rintro _ _ nx4 ⟨⟨nb, rfl, nb0, nb1⟩, ⟨p4, hp4, rfl⟩, hnx4⟩
              try simp only [] at hnx4
              clear hold3
              simp only [puts_some, updo]
              refine AOPS.runk 1 (by simp (disch := first|omega|(simp only[ln];omega)) [List.take_succ_cons, List.take_zero, idf_Wd']; rfl) ?_
              simp only [List.drop_succ_cons, List.drop_zero]
              refine AOPS.fcall (pointOfS_fc na nb (by omega) (by omega) (by omega) (by omega)) rfl rfl rfl hb165 (by simp (disch := first|omega|(simp only[ln];omega)) [idf_Wd']) (by simp (disch := first|omega|(simp only[ln];omega))) (by simp) ?_
              simp only [puts_some, updo]
              refine AOPS.all (by simp (disch := first|omega|(simp only[ln];omega)) [idf_Wd']; rfl) ?_
              refine hK24 _ ?_
              refine AWP.ret ?_
              exact hK _ _ _ _ _ trivial ((Fin.mk (r := .agg [.int .u64 (pt3 na nb 1).x.a, .int .u64 (pt3 na nb 1).x.b, .int .u64 (pt3 na nb 1).x.c, .int .u64 (pt3 na nb 1).x.d, .int .u64 (pt3 na nb 1).y.a, .int .u64 (pt3 na nb 1).y.b, .int .u64 (pt3 na nb 1).y.c, .int .u64 (pt3 na nb 1).y.d, .int .u64 (pt3 na nb 1).w.a, .int .u64 (pt3 na nb 1).w.b, .int .u64 (pt3 na nb 1).w.c, .int .u64 (pt3 na nb 1).w.d]) (by simp (disch := omega) [aRes, aResL, aRes1, idf_Wd'])).restr (fun i => decide (i < nx))) (⟨⟨pt3 na nb 1, rfl, pt3_ok _ _ _⟩, ⟨p4, hp4, by simp (disch := first | omega | (simp; done) | (simp; omega)) [hrestr_in, hrestr_out, hrestr_all hd, hupd_same]⟩, by first | omega | (simp at *; omega)⟩)
            · try simp only [decide_eq_true_eq, decide_eq_false_iff_not] at h73
              refine AWP.skip ?_
              refine hK2 _ ?_
              refine AWP.seqk fun K25 hK25 => ?_
              refine AWP.region ?_
              refine AOPS.runk 1 (by simp (disch := first|omega|(simp only[ln];omega)) [List.take_succ_cons, List.take_zero, idf_Wd']; rfl) ?_
              simp only [List.drop_succ_cons, List.drop_zero]
              refine AOPS.old fun hold1 => ?_
              refine AOPS.acall (spot_ac l p2 id _ _ dl hl hp2 (by simp (disch := omega) [hH]) hold1) rfl rfl rfl hb130 (by simp (disch := first|omega|(simp only[ln];omega)) [idf_Wd']) (by simp (disch := first|omega|(simp only[ln];omega))) (by simp) ?_
              rintro _ _ nx3 ⟨⟨na, nb, rfl, na0, na1, nb0, nb1⟩, ⟨p3, hp3, rfl⟩, hnx3⟩
              try simp only [] at hnx3
              clear hold1
              simp only [puts_some, updo]
              refine AOPS.fcall (pointOfS_fc na nb (by omega) (by omega) (by omega) (by omega)) rfl rfl rfl hb165 (by simp (disch := first|omega|(simp only[ln];omega)) [idf_Wd']) (by simp (disch := first|omega|(simp only[ln];omega))) (by simp) ?_
              simp only [puts_some, updo]
              refine AOPS.all (by simp (disch := first|omega|(simp only[ln];omega)) [idf_Wd']; rfl) ?_
              refine hK25 _ ?_
              refine AWP.ret ?_
              exact hK _ _ _ _ _ trivial ((Fin.mk (r := .agg [.int .u64 (pt3 na nb 1).x.a, .int .u64 (pt3 na nb 1).x.b, .int .u64 (pt3 na nb 1).x.c, .int .u64 (pt3 na nb 1).x.d, .int .u64 (pt3 na nb 1).y.a, .int .u64 (pt3 na nb 1).y.b, .int .u64 (pt3 na nb 1).y.c, .int .u64 (pt3 na nb 1).y.d, .int .u64 (pt3 na nb 1).w.a, .int .u64 (pt3 na nb 1).w.b, .int .u64 (pt3 na nb 1).w.c, .int .u64 (pt3 na nb 1).w.d]) (by simp (disch := omega) [aRes, aResL, aRes1, idf_Wd'])).restr (fun i => decide (i < nx))) (⟨⟨pt3 na nb 1, rfl, pt3_ok _ _ _⟩, ⟨p3, hp3, by simp (disch := first | omega | (simp; done) | (simp; omega)) [hrestr_in, hrestr_out, hrestr_all hd, hupd_same]⟩, by first | omega | (simp at *; omega)⟩)
        · try simp only [decide_eq_true_eq, decide_eq_false_iff_not] at h54
          refine AWP.region (AOPS.all (by simp (disch := first|omega|(simp only[ln];omega)) [idf_Wd']; rfl) ?_)
          refine hK13 _ ?_
          refine cond_ok _ (by simp (disch := first|omega|(simp only[ln];omega)); rfl) (fun h54 => ?_) (fun h54 => ?_)
          · try simp only [decide_eq_true_eq, decide_eq_false_iff_not] at h54
            refine AWP.seqk fun K26 hK26 => ?_
            refine AWP.region ?_
            refine AOPS.runk 1 (by simp (disch := first|omega|(simp only[ln];omega)) [List.take_succ_cons, List.take_zero, idf_Wd']; rfl) ?_
            simp only [List.drop_succ_cons, List.drop_zero]
            refine AOPS.old fun hold1 => ?_
            refine AOPS.acall (near_ac (-40) (40) (by omega) (by omega) (by omega) l p2 id _ _ dl hl hp2 (by simp (disch := omega) [hH]) hold1) rfl rfl rfl hb164 (by simp (disch := first|omega|(simp only[ln];omega)) [idf_Wd']) (by simp (disch := first|omega|(simp only[ln];omega))) (by simp) ?_
            rintro _ _ nx3 ⟨⟨na, rfl, na0, na1⟩, ⟨p3, hp3, rfl⟩, hnx3⟩
            try simp only [] at hnx3
            clear hold1
            simp only [puts_some, updo]
            refine AOPS.fcall (wideOfS_fc na (by omega) (by omega)) rfl rfl rfl hb162 (by simp (disch := first|omega|(simp only[ln];omega)) [idf_Wd']) (by simp (disch := first|omega|(simp only[ln];omega))) (by simp) ?_
            simp only [puts_some, updo]
            refine AOPS.runk 1 (by simp (disch := first|omega|(simp only[ln];omega)) [List.take_succ_cons, List.take_zero, idf_Wd']; rfl) ?_
            simp only [List.drop_succ_cons, List.drop_zero]
            refine AOPS.old fun hold4 => ?_
            refine AOPS.acall (near_ac (-40) (40) (by omega) (by omega) (by omega) l p3 id _ _ dl hl hp3 (by simp (disch := omega) [hH]) hold4) rfl rfl rfl hb164 (by simp (disch := first|omega|(simp only[ln];omega)) [idf_Wd']) (by simp (disch := first|omega|(simp only[ln];omega))) (by simp) ?_
            rintro _ _ nx4 ⟨⟨nb, rfl, nb0, nb1⟩, ⟨p4, hp4, rfl⟩, hnx4⟩
            try simp only [] at hnx4
            clear hold4
            simp only [puts_some, updo]
            refine AOPS.fcall (wideOfS_fc nb (by omega) (by omega)) rfl rfl rfl hb162 (by simp (disch := first|omega|(simp only[ln];omega)) [idf_Wd']) (by simp (disch := first|omega|(simp only[ln];omega))) (by simp) ?_
            simp only [puts_some, updo]
            refine AOPS.runk 1 (by simp (disch := first|omega|(simp only[ln];omega)) [List.take_succ_cons, List.take_zero, idf_Wd']; rfl) ?_
            simp only [List.drop_succ_cons, List.drop_zero]
            refine AOPS.old fun hold7 => ?_
            refine AOPS.acall (near_ac (0) (9) (by omega) (by omega) (by omega) l p4 id _ _ dl hl hp4 (by simp (disch := omega) [hH]) hold7) rfl rfl rfl hb164 (by simp (disch := first|omega|(simp only[ln];omega)) [idf_Wd']) (by simp (disch := first|omega|(simp only[ln];omega))) (by simp) ?_
            rintro _ _ nx5 ⟨⟨nc, rfl, nc0, nc1⟩, ⟨p5, hp5, rfl⟩, hnx5⟩
            try simp only [] at hnx5
            clear hold7
            simp only [puts_some, updo]
            refine AOPS.runk 1 (by simp (disch := first|omega|(simp only[ln];omega)) [List.take_succ_cons, List.take_zero, idf_Wd']; rfl) ?_
            simp only [List.drop_succ_cons, List.drop_zero]
            refine AOPS.fcall (wideOfS_fc (1 + nc) (by omega) (by omega)) rfl rfl rfl hb162 (by simp (disch := first|omega|(simp only[ln];omega)) [idf_Wd']) (by simp (disch := first|omega|(simp only[ln];omega))) (by simp) ?_
            simp only [puts_some, updo]
            refine AOPS.fcall (pointMakeS_fc (W4z na) (W4z nb) (W4z (1 + nc)) (W4z_ok _) (W4z_ok _) (W4z_ok _)) rfl rfl rfl hb160 (by simp (disch := first|omega|(simp only[ln];omega)) [idf_Wd']) (by simp (disch := first|omega|(simp only[ln];omega))) (by simp) ?_
            simp only [puts_some, updo]
            refine AOPS.all (by simp (disch := first|omega|(simp only[ln];omega)) [idf_Wd']; rfl) ?_
            refine hK26 _ ?_
            refine AWP.seqk fun K27 hK27 => ?_
            refine AWP.region (AOPS.all (by simp (disch := first|omega|(simp only[ln];omega)) [idf_Wd']; rfl) ?_)
            refine hK27 _ ?_
            refine AWP.ret ?_
            exact hK _ _ _ _ _ trivial ((Fin.mk (r := .agg [.int .u64 (mkP (W4z na).v (W4z nb).v (W4z (1 + nc)).v).x.a, .int .u64 (mkP (W4z na).v (W4z nb).v (W4z (1 + nc)).v).x.b, .int .u64 (mkP (W4z na).v (W4z nb).v (W4z (1 + nc)).v).x.c, .int .u64 (mkP (W4z na).v (W4z nb).v (W4z (1 + nc)).v).x.d, .int .u64 (mkP (W4z na).v (W4z nb).v (W4z (1 + nc)).v).y.a, .int .u64 (mkP (W4z na).v (W4z nb).v (W4z (1 + nc)).v).y.b, .int .u64 (mkP (W4z na).v (W4z nb).v (W4z (1 + nc)).v).y.c, .int .u64 (mkP (W4z na).v (W4z nb).v (W4z (1 + nc)).v).y.d, .int .u64 (mkP (W4z na).v (W4z nb).v (W4z (1 + nc)).v).w.a, .int .u64 (mkP (W4z na).v (W4z nb).v (W4z (1 + nc)).v).w.b, .int .u64 (mkP (W4z na).v (W4z nb).v (W4z (1 + nc)).v).w.c, .int .u64 (mkP (W4z na).v (W4z nb).v (W4z (1 + nc)).v).w.d]) (by simp (disch := omega) [aRes, aResL, aRes1, idf_Wd'])).restr (fun i => decide (i < nx))) (⟨⟨mkP (W4z na).v (W4z nb).v (W4z (1 + nc)).v, rfl, mkP_ok _ _ _⟩, ⟨p5, hp5, by simp (disch := first | omega | (simp; done) | (simp; omega)) [hrestr_in, hrestr_out, hrestr_all hd, hupd_same]⟩, by first | omega | (simp at *; omega)⟩)
          · try simp only [decide_eq_true_eq, decide_eq_false_iff_not] at h54
            refine AWP.seqk fun K28 hK28 => ?_
            refine AWP.region (AOPS.all (by simp (disch := first|omega|(simp only[ln];omega)) [idf_Wd']; rfl) ?_)
            refine hK28 _ ?_
            refine cond_ok _ (by simp (disch := first|omega|(simp only[ln];omega)); rfl) (fun h73 => ?_) (fun h73 => ?_)
            · try simp only [decide_eq_true_eq, decide_eq_false_iff_not] at h73
              refine AWP.seqk fun K29 hK29 => ?_
              refine AWP.region ?_
              refine AOPS.runk 1 (by simp (disch := first|omega|(simp only[ln];omega)) [List.take_succ_cons, List.take_zero, idf_Wd']; rfl) ?_
              simp only [List.drop_succ_cons, List.drop_zero]
              refine AOPS.old fun hold1 => ?_
              refine AOPS.acall (near_ac (-1000000) (1000000) (by omega) (by omega) (by omega) l p2 id _ _ dl hl hp2 (by simp (disch := omega) [hH]) hold1) rfl rfl rfl hb164 (by simp (disch := first|omega|(simp only[ln];omega)) [idf_Wd']) (by simp (disch := first|omega|(simp only[ln];omega))) (by simp) ?_
              rintro _ _ nx3 ⟨⟨na, rfl, na0, na1⟩, ⟨p3, hp3, rfl⟩, hnx3⟩
              try simp only [] at hnx3
              clear hold1
              simp only [puts_some, updo]
              refine AOPS.runk 1 (by simp (disch := first|omega|(simp only[ln];omega)) [List.take_succ_cons, List.take_zero, idf_Wd']; rfl) ?_
              simp only [List.drop_succ_cons, List.drop_zero]
              refine AOPS.old fun hold3 => ?_
              refine AOPS.acall (near_ac (-1000000) (1000000) (by omega) (by omega) (by omega) l p3 id _ _ dl hl hp3 (by simp (disch := omega) [hH]) hold3) rfl rfl rfl hb164 (by simp (disch := first|omega|(simp only[ln];omega)) [idf_Wd']) (by simp (disch := first|omega|(simp only[ln];omega))) (by simp) ?_
              rintro _ _ nx4 ⟨⟨nb, rfl, nb0, nb1⟩, ⟨p4, hp4, rfl⟩, hnx4⟩
              try simp only [] at hnx4
              clear hold3
              simp only [puts_some, updo]
              refine AOPS.runk 1 (by simp (disch := first|omega|(simp only[ln];omega)) [List.take_succ_cons, List.take_zero, idf_Wd']; rfl) ?_
              simp only [List.drop_succ_cons, List.drop_zero]
              refine AOPS.fcall (pointOfS_fc na nb (by omega) (by omega) (by omega) (by omega)) rfl rfl rfl hb165 (by simp (disch := first|omega|(simp only[ln];omega)) [idf_Wd']) (by simp (disch := first|omega|(simp only[ln];omega))) (by simp) ?_
              simp only [puts_some, updo]
              refine AOPS.all (by simp (disch := first|omega|(simp only[ln];omega)) [idf_Wd']; rfl) ?_
              refine hK29 _ ?_
              refine AWP.ret ?_
              exact hK _ _ _ _ _ trivial ((Fin.mk (r := .agg [.int .u64 (pt3 na nb 1).x.a, .int .u64 (pt3 na nb 1).x.b, .int .u64 (pt3 na nb 1).x.c, .int .u64 (pt3 na nb 1).x.d, .int .u64 (pt3 na nb 1).y.a, .int .u64 (pt3 na nb 1).y.b, .int .u64 (pt3 na nb 1).y.c, .int .u64 (pt3 na nb 1).y.d, .int .u64 (pt3 na nb 1).w.a, .int .u64 (pt3 na nb 1).w.b, .int .u64 (pt3 na nb 1).w.c, .int .u64 (pt3 na nb 1).w.d]) (by simp (disch := omega) [aRes, aResL, aRes1, idf_Wd'])).restr (fun i => decide (i < nx))) (⟨⟨pt3 na nb 1, rfl, pt3_ok _ _ _⟩, ⟨p4, hp4, by simp (disch := first | omega | (simp; done) | (simp; omega)) [hrestr_in, hrestr_out, hrestr_all hd, hupd_same]⟩, by first | omega | (simp at *; omega)⟩)
            · try simp only [decide_eq_true_eq, decide_eq_false_iff_not] at h73
              refine AWP.skip ?_
              refine hK2 _ ?_
              refine AWP.seqk fun K30 hK30 => ?_
              refine AWP.region ?_
              refine AOPS.runk 1 (by simp (disch := first|omega|(simp only[ln];omega)) [List.take_succ_cons, List.take_zero, idf_Wd']; rfl) ?_
              simp only [List.drop_succ_cons, List.drop_zero]
              refine AOPS.old fun hold1 => ?_
              refine AOPS.acall (spot_ac l p2 id _ _ dl hl hp2 (by simp (disch := omega) [hH]) hold1) rfl rfl rfl hb130 (by simp (disch := first|omega|(simp only[ln];omega)) [idf_Wd']) (by simp (disch := first|omega|(simp only[ln];omega))) (by simp) ?_
              rintro _ _ nx3 ⟨⟨na, nb, rfl, na0, na1, nb0, nb1⟩, ⟨p3, hp3, rfl⟩, hnx3⟩
              try simp only [] at hnx3
              clear hold1
              simp only [puts_some, updo]
              refine AOPS.fcall (pointOfS_fc na nb (by omega) (by omega) (by omega) (by omega)) rfl rfl rfl hb165 (by simp (disch := first|omega|(simp only[ln];omega)) [idf_Wd']) (by simp (disch := first|omega|(simp only[ln];omega))) (by simp) ?_
              simp only [puts_some, updo]
              refine AOPS.all (by simp (disch := first|omega|(simp only[ln];omega)) [idf_Wd']; rfl) ?_
              refine hK30 _ ?_
              refine AWP.ret ?_
              exact hK _ _ _ _ _ trivial ((Fin.mk (r := .agg [.int .u64 (pt3 na nb 1).x.a, .int .u64 (pt3 na nb 1).x.b, .int .u64 (pt3 na nb 1).x.c, .int .u64 (pt3 na nb 1).x.d, .int .u64 (pt3 na nb 1).y.a, .int .u64 (pt3 na nb 1).y.b, .int .u64 (pt3 na nb 1).y.c, .int .u64 (pt3 na nb 1).y.d, .int .u64 (pt3 na nb 1).w.a, .int .u64 (pt3 na nb 1).w.b, .int .u64 (pt3 na nb 1).w.c, .int .u64 (pt3 na nb 1).w.d]) (by simp (disch := omega) [aRes, aResL, aRes1, idf_Wd'])).restr (fun i => decide (i < nx))) (⟨⟨pt3 na nb 1, rfl, pt3_ok _ _ _⟩, ⟨p3, hp3, by simp (disch := first | omega | (simp; done) | (simp; omega)) [hrestr_in, hrestr_out, hrestr_all hd, hupd_same]⟩, by first | omega | (simp at *; omega)⟩)

theorem open_ac (l : List Int) (H : Heap) (nx : Nat) : ACall Try.prog 76 [Wd .u8 l] H nx (fun r H' nx' => r = .ptr nx 0 0 ∧ H' = hupd H nx (some (2, [[Wd .u8 l, .int .i64 0]])) ∧ nx' = nx + 1) := by
  refine ACall.body Try.func76 rfl 6 rfl fun K hK => ?_
  refine AWP.seqk fun K1 hK1 => ?_
  refine AWP.region (AOPS.all (by simp (disch := first|omega|(simp only[ln];omega)) [idf_Wd']; rfl) ?_)
  refine hK1 _ ?_
  refine AWP.seqk fun K2 hK2 => ?_
  refine AWP.region (AOPS.all (by simp (disch := first|omega|(simp only[ln];omega)) [idf_Wd']; rfl) ?_)
  refine hK2 _ ?_
  refine AWP.ret ?_
  exact hK _ _ _ _ _ trivial (Fin.mk (r := .ptr nx 0 0) (by simp [aRes, aResL, aRes1, idf_Wd'])) (⟨rfl, by simp, by simp⟩)

end Go.Proofs.Ytmaebeknmiomnaa

/- Walks: FnTurns, walked. -/
namespace Go.Proofs.Ytmaebeknmiomnaa
open Go Go.RowKit
set_option linter.unusedSimpArgs false
set_option linter.unusedVariables false
set_option maxRecDepth 100000
attribute [local simp] List.getElem?_cons_zero List.getElem?_cons_succ List.getElem?_toArray runOps stepOp.eq_def agd.eq_def dstOk.eq_def opVal.eq_def opNew.eq_def opSto.eq_def ev.eq_def cv.eq_def puts_some puts_none upd_ap lst.eq_def aBin.eq_def aUn.eq_def aBi_str aBi_isl aBi_osl aBi_nsl aBi_max aBi_min aBi_max3 aConv.eq_def aLd.eq_def aLoad.eq_def aField.eq_def aFld.eq_def aIdx_isl aIdx_osl aSlc_isl aSlc_osl aSlc_str aSlc_nsl bnd.eq_def evs_nil evs_cons aBuild.eq_def aFill splice.eq_def cells_agg cells_int cells_bool cells_str cells_nil cells_nsl cells_isl cells_osl cells_ptr cells_ip cells_fn cells_Wd one_int one_bool one_str one_nil one_nsl one_isl one_osl one_ptr one_ip one_fn one_Wd aSets hupd_eq hupd_ne wrap_i64s wrap_u64s wrap_u32s wrap_u8s wd_getD wd_set wd_len wd_replicate wd_one wd_fold fz_osl hupd_same aSix.eq_def aEqS.eq_def aEqB_bool aEqB_nsl aEqB_nil
attribute [local simp] szT3 byT3 agT3 unT3 zoT3 szT5 byT5 agT5 unT5 zoT5 szT22 byT22 agT22 elT22 unT22 zoT22 szT26 byT26 agT26 flT26 fdT26_0 fdT26_1 fdT26_2 fdT26_3 zoT26 szT28 byT28 agT28 flT28 fdT28_0 fdT28_1 fdT28_2 zoT28

theorem big_fc (l : List Int) : FC Try.prog 15 [Wd .u8 l] (.bool (decide (1048576 < (l.length : Int)))) := by
  refine FC.body Try.func15 rfl (by simp [idfL, idf, idfLL_iff, idf_Wd']) (by simp [idfL, idf, idfLL_iff, idf_Wd']) 6 rfl fun nx K hK => ?_
  refine AWP.seqk fun K1 hK1 => ?_
  refine AWP.region (AOPS.all (by simp (disch := first|omega|(simp only[ln];omega)) [idf_Wd']; rfl) ?_)
  refine hK1 _ ?_
  refine AWP.seqk fun K2 hK2 => ?_
  refine AWP.region (AOPS.all (by simp (disch := first|omega|(simp only[ln];omega)) [len_Wd (P := Try.prog) #[22] rfl elT22, idf_Wd']; rfl) ?_)
  refine hK2 _ ?_
  refine AWP.ret ?_
  exact hK _ _ _ _ trivial (Fin.mk (by simp (disch := first|omega|(simp only[ln];omega)) [aRes, aResL, aRes1, idf_Wd']))

end Go.Proofs.Ytmaebeknmiomnaa

/- Walks: points in order, between, crossings (both). -/
namespace Go.Proofs.Ytmaebeknmiomnaa
open Go Go.RowKit
set_option linter.unusedSimpArgs false
set_option linter.unusedVariables false
set_option maxRecDepth 100000
attribute [local simp] List.getElem?_cons_zero List.getElem?_cons_succ List.getElem?_toArray runOps stepOp.eq_def agd.eq_def dstOk.eq_def opVal.eq_def opNew.eq_def opSto.eq_def ev.eq_def cv.eq_def puts_some puts_none upd_ap lst.eq_def aBin.eq_def aUn.eq_def aBi_str aBi_isl aBi_osl aBi_nsl aBi_max aBi_min aBi_max3 aConv.eq_def aLd.eq_def aLoad.eq_def aField.eq_def aFld.eq_def aIdx_isl aIdx_osl aSlc_isl aSlc_osl aSlc_str aSlc_nsl bnd.eq_def evs_nil evs_cons aBuild.eq_def aFill splice.eq_def cells_agg cells_int cells_bool cells_str cells_nil cells_nsl cells_isl cells_osl cells_ptr cells_ip cells_fn cells_Wd one_int one_bool one_str one_nil one_nsl one_isl one_osl one_ptr one_ip one_fn one_Wd aSets hupd_eq hupd_ne wrap_i64s wrap_u64s wrap_u32s wrap_u8s wd_getD wd_set wd_len wd_replicate wd_one wd_fold fz_osl hupd_same aSix.eq_def aEqS.eq_def aEqB_bool aEqB_nsl aEqB_nil
attribute [local simp] szT2 byT2 agT2 unT2 zoT2 szT4 byT4 agT4 unT4 zoT4 szT26 byT26 agT26 flT26 fdT26_0 fdT26_1 fdT26_2 fdT26_3 zoT26 szT28 byT28 agT28 flT28 fdT28_0 fdT28_1 fdT28_2 zoT28 szT111 byT111 agT111 elT111 unT111 zoT111 szT113 byT113 agT113 flT113 fdT113_0 fdT113_1 zoT113 szT115 byT115 agT115 flT115 fdT115_0 fdT115_1 fdT115_2 zoT115 szT117 byT117 agT117 elT117 unT117 zoT117 szT119 byT119 agT119 flT119 fdT119_0 fdT119_1 zoT119 szT121 byT121 agT121 flT121 fdT121_0 fdT121_1 fdT121_2 zoT121

theorem beqd (a b : Int) : (a == b) = decide (a = b) := by rw [Bool.eq_iff_iff]; simp
theorem eqW4n (n : Nat) (a b c d a' b' c' d' : Int) : eqW Try.prog (n + 2) 26 [.int .u64 a, .int .u64 b, .int .u64 c, .int .u64 d] [.int .u64 a', .int .u64 b', .int .u64 c', .int .u64 d'] = some ((a == a') && ((b == b') && ((c == c') && ((d == d') && true)))) := by
  have hs : Try.prog.stoodInHeld 26 = false := by kernel_rfl
  have hz : szOf Try.prog 24 = some 1 := by kernel_rfl
  have ha : aggT Try.prog 24 = some false := by kernel_rfl
  unfold eqW
  simp only [Try.underlying26, hs]
  simp [eqF, hz, ha, eqW1]
theorem eqPt (p q : Pt) : eqW Try.prog 8 28 [.int .u64 p.x.a, .int .u64 p.x.b, .int .u64 p.x.c, .int .u64 p.x.d, .int .u64 p.y.a, .int .u64 p.y.b, .int .u64 p.y.c, .int .u64 p.y.d, .int .u64 p.w.a, .int .u64 p.w.b, .int .u64 p.w.c, .int .u64 p.w.d] [.int .u64 q.x.a, .int .u64 q.x.b, .int .u64 q.x.c, .int .u64 q.x.d, .int .u64 q.y.a, .int .u64 q.y.b, .int .u64 q.y.c, .int .u64 q.y.d, .int .u64 q.w.a, .int .u64 q.w.b, .int .u64 q.w.c, .int .u64 q.w.d] = some (decide (p = q)) := by
  have hs : Try.prog.stoodInHeld 28 = false := by kernel_rfl
  have hz : szOf Try.prog 26 = some 4 := by kernel_rfl
  have ha : aggT Try.prog 26 = some true := by kernel_rfl
  unfold eqW
  simp only [Try.underlying28, hs]
  simp [eqF, hz, ha, eqW4n]
  obtain ⟨⟨a1, a2, a3, a4⟩, ⟨b1, b2, b3, b4⟩, ⟨c1, c2, c3, c4⟩⟩ := p
  obtain ⟨⟨d1, d2, d3, d4⟩, ⟨e1, e2, e3, e4⟩, ⟨f1, f2, f3, f4⟩⟩ := q
  rw [Bool.eq_iff_iff]
  simp [Pt.mk.injEq, W4.mk.injEq, and_assoc]
theorem cmV_self (p : Pt) : cmV p p = 0 := by
  have := cmV_anti p p; omega
set_option maxHeartbeats 2000000 in
theorem cmpPoints_fc (p q : Pt) (hp : p.ok) (hq : q.ok) : FC Try.prog 80 [p.av, q.av] (.int .i64 (cmV p q)) := by
  have pX := W4.bg hp.1
  have pY := W4.bg hp.2.1
  have pW := W4.bg hp.2.2
  have qX := W4.bg hq.1
  have qY := W4.bg hq.2.1
  have qW := W4.bg hq.2.2
  have hcx : FC Try.prog 88 [numI (p.x.v * q.w.v), numI (q.x.v * p.w.v)] (.int .i64 (cmX p q)) := cmp_fc (pX.mul qW) (qX.mul pW) (by omega) (by omega)
  have hcy : FC Try.prog 88 [numI (p.y.v * q.w.v), numI (q.y.v * p.w.v)] (.int .i64 (cmY p q)) := cmp_fc (pY.mul qW) (qY.mul pW) (by omega) (by omega)
  refine FC.body Try.func80 rfl (by simp [idfL, idf, Pt.av, Pt.cells]) (by simp [idfL, idf, idfLL_iff, idf_Wd', idf_numS, cells_numS, numS_fold, idf_numI, cells_numI, numI_fold, Pt.av, Pt.cells, spA, spC]) 40 rfl fun nx K hK => ?_
  refine AWP.seqk fun K1 hK1 => ?_
  refine AWP.region (AOPS.all (by simp (disch := first|omega|(simp only[ln];omega)) [idf_Wd', idf_numS, cells_numS, numS_fold, idf_numI, cells_numI, numI_fold, Pt.av, Pt.cells, spA, spC]; rfl) ?_)
  refine hK1 _ ?_
  refine AWP.seqk fun K2 hK2 => ?_
  refine AWP.seqk fun K3 hK3 => ?_
  refine AWP.region (AOPS.all (by simp (disch := first|omega|(simp only[ln];omega)) [idf_Wd', idf_numS, cells_numS, numS_fold, idf_numI, cells_numI, numI_fold, Pt.av, Pt.cells, spA, spC, eqPt]; rfl) ?_)
  refine hK3 _ ?_
  refine cond_ok (decide (p = q)) (by simp (disch := first|omega|(simp only[ln];omega))) (fun h10 => ?_) (fun h10 => ?_)
  · try simp only [decide_eq_true_eq, decide_eq_false_iff_not] at h10
    subst h10
    refine AWP.seqk fun K4 hK4 => ?_
    refine AWP.region (AOPS.all (by simp (disch := first|omega|(simp only[ln];omega)) [idf_Wd', idf_numS, cells_numS, numS_fold, idf_numI, cells_numI, numI_fold, Pt.av, Pt.cells, spA, spC]; rfl) ?_)
    refine hK4 _ ?_
    refine AWP.ret ?_
    exact hK _ _ _ _ trivial ((Fin.mk (by simp [aRes, aResL, aRes1, idf_Wd', idf_numS, cells_numS, numS_fold, idf_numI, cells_numI, numI_fold, Pt.av, Pt.cells, spA, spC]; rfl)).cast (by rw [cmV_self]))
  · try simp only [decide_eq_true_eq, decide_eq_false_iff_not] at h10
    refine AWP.skip ?_
    refine hK2 _ ?_
    refine AWP.seqk fun K5 hK5 => ?_
    refine AWP.old fun hold => ?_
    refine AWP.draw 6 Try.checked.mixed (by kernel_rfl) (by simp) ?_
    simp only [List.take_succ_cons, List.take_zero, List.drop_succ_cons, List.drop_zero]
    refine DP.runFk 1 (by simp (disch := first|omega|(simp only[ln];omega)) [runDf.eq_def, runF1, runF2, stepF.eq_def, updo.eq_def, hupo.eq_def, opSto1.eq_def, List.take_succ_cons, List.take_zero, idf_Wd', idf_numS, cells_numS, numS_fold, idf_numI, cells_numI, numI_fold, Pt.av, Pt.cells, spA, spC]; rfl) fun fs6 hfs6 => ?_
    replace hfs6 : fs6.length = 1 := hfs6.trans rfl
    simp only [List.drop_succ_cons, List.drop_zero]
    refine DP.fcall (spot_fc p hp) rfl rfl rfl hb84 (by simp (disch := first|omega|(simp only[ln];omega)) [idf_Wd', idf_numS, cells_numS, numS_fold, idf_numI, cells_numI, numI_fold, Pt.av, Pt.cells, spA, spC]) (by simp (disch := first|omega|(simp only[ln];omega))) (by simp) ?_
    simp only [updo]
    refine DP.runF1q (by simp (disch := first|omega|(simp only[ln];omega)) [runDf.eq_def, runF1, runF2, stepF.eq_def, updo.eq_def, hupo.eq_def, opSto1.eq_def, idf_Wd', idf_numS, cells_numS, numS_fold, idf_numI, cells_numI, numI_fold, Pt.av, Pt.cells, spA, spC]; rfl) fun fq7 hfq7 => ?_
    simp [qids, asksB, Op.operands, topId] at hfq7
    simp only [updo]
    refine DP.fcall (spot_fc q hq) rfl rfl rfl hb84 (by simp (disch := first|omega|(simp only[ln];omega)) [idf_Wd', idf_numS, cells_numS, numS_fold, idf_numI, cells_numI, numI_fold, Pt.av, Pt.cells, spA, spC]) (by simp (disch := first|omega|(simp only[ln];omega))) (by simp) ?_
    simp only [updo]
    refine DP.runFk 2 (by simp (disch := first|omega|(simp only[ln];omega)) [runDf.eq_def, runF1, runF2, stepF.eq_def, updo.eq_def, hupo.eq_def, opSto1.eq_def, List.take_succ_cons, List.take_zero, idf_Wd', idf_numS, cells_numS, numS_fold, idf_numI, cells_numI, numI_fold, Pt.av, Pt.cells, spA, spC]; rfl) fun fs8 hfs8 => ?_
    replace hfs8 : fs8.length = 2 := hfs8.trans rfl
    simp only [List.drop_succ_cons, List.drop_zero]
    refine DQ.sto1 (m := 6) [2] _ (by simp (disch := first|omega|(simp only[ln];omega)) [runDf.eq_def, runF1, runF2, stepF.eq_def, updo.eq_def, hupo.eq_def, opSto1.eq_def, idf_Wd', idf_numS, cells_numS, numS_fold, idf_numI, cells_numI, numI_fold, Pt.av, Pt.cells, spA, spC]; rfl) rfl (by simp only [List.length_append, List.length_cons, List.length_nil, hfs6, hfs8]; omega) (by kernel_rfl) (by intro k f hk hex; simp only [List.mem_cons, List.not_mem_nil, or_false] at hex; rcases hex with rfl <;> (simp [List.getElem?_append, hfs6, hfs8] at hk; subst hk; refine ⟨?_, by first | omega | (simp; done) | (simp; omega)⟩; simp [qids, asksB, Op.operands, Call.operands, topId, numS, numI, Wd, hfq7]; try omega)) ?_
    try simp only []
    refine DQ.sto1 (m := 6) [] _ (by simp (disch := first|omega|(simp only[ln];omega)) [runDf.eq_def, runF1, runF2, stepF.eq_def, updo.eq_def, hupo.eq_def, opSto1.eq_def, idf_Wd', idf_numS, cells_numS, numS_fold, idf_numI, cells_numI, numI_fold, Pt.av, Pt.cells, spA, spC]; rfl) rfl (by simp only [List.length_append, List.length_cons, List.length_nil, hfs6, hfs8]; omega) (by kernel_rfl) (by intro k f hk hex; simp only [List.not_mem_nil] at hex) ?_
    try simp only []
    refine hK5 _ ?_
    refine AWP.seqk fun K9 hK9 => ?_
    refine AWP.seqk fun K10 hK10 => ?_
    refine AWP.draw 11 Try.checked.mixed (by kernel_rfl) (by simp) ?_
    simp only [List.take_succ_cons, List.take_zero, List.drop_succ_cons, List.drop_zero]
    refine DP.runFk 4 (by simp (disch := first|omega|(simp only[ln];omega)) [runDf.eq_def, runF1, runF2, stepF.eq_def, updo.eq_def, hupo.eq_def, opSto1.eq_def, List.take_succ_cons, List.take_zero, idf_Wd', idf_numS, cells_numS, numS_fold, idf_numI, cells_numI, numI_fold, Pt.av, Pt.cells, spA, spC]; rfl) fun fs11 hfs11 => ?_
    replace hfs11 : fs11.length = 4 := hfs11.trans rfl
    simp only [List.drop_succ_cons, List.drop_zero]
    refine DP.fcall (by_fc pX qW (by omega) (by omega)) rfl rfl rfl hb92 (by simp (disch := first|omega|(simp only[ln];omega)) [idf_Wd', idf_numS, cells_numS, numS_fold, idf_numI, cells_numI, numI_fold, Pt.av, Pt.cells, spA, spC]) (by simp (disch := first|omega|(simp only[ln];omega))) (by simp) ?_
    simp only [updo]
    refine DP.runFk 4 (by simp (disch := first|omega|(simp only[ln];omega)) [runDf.eq_def, runF1, runF2, stepF.eq_def, updo.eq_def, hupo.eq_def, opSto1.eq_def, List.take_succ_cons, List.take_zero, idf_Wd', idf_numS, cells_numS, numS_fold, idf_numI, cells_numI, numI_fold, Pt.av, Pt.cells, spA, spC]; rfl) fun fs12 hfs12 => ?_
    replace hfs12 : fs12.length = 4 := hfs12.trans rfl
    simp only [List.drop_succ_cons, List.drop_zero]
    refine DP.fcall (by_fc qX pW (by omega) (by omega)) rfl rfl rfl hb92 (by simp (disch := first|omega|(simp only[ln];omega)) [idf_Wd', idf_numS, cells_numS, numS_fold, idf_numI, cells_numI, numI_fold, Pt.av, Pt.cells, spA, spC]) (by simp (disch := first|omega|(simp only[ln];omega))) (by simp) ?_
    simp only [updo]
    refine DP.fcall (hcx) rfl rfl rfl hb88 (by simp (disch := first|omega|(simp only[ln];omega)) [idf_Wd', idf_numS, cells_numS, numS_fold, idf_numI, cells_numI, numI_fold, Pt.av, Pt.cells, spA, spC]) (by simp (disch := first|omega|(simp only[ln];omega))) (by simp) ?_
    simp only [updo]
    refine DQ.runF (m := 11) (by simp only [List.length_append, List.length_cons, List.length_nil, hfs11, hfs12]; omega) _ _ _ (by kernel_rfl) rfl (by simp (disch := first|omega|(simp only[ln];omega)) [runDf.eq_def, runF1, runF2, stepF.eq_def, updo.eq_def, hupo.eq_def, opSto1.eq_def, idf_Wd', idf_numS, cells_numS, numS_fold, idf_numI, cells_numI, numI_fold, Pt.av, Pt.cells, spA, spC]; rfl) ?_
    refine hK10 _ ?_
    refine AWP.seqk fun K13 hK13 => ?_
    refine AWP.region (AOPS.all (by simp (disch := first|omega|(simp only[ln];omega)) [idf_Wd', idf_numS, cells_numS, numS_fold, idf_numI, cells_numI, numI_fold, Pt.av, Pt.cells, spA, spC]; rfl) ?_)
    refine hK13 _ ?_
    refine cond_ok (cmX p q != 0) (by simp (disch := first|omega|(simp only[ln];omega)) [bne]) (fun h27 => ?_) (fun h27 => ?_)
    · try simp only [decide_eq_true_eq, decide_eq_false_iff_not] at h27
      have hne : cmX p q ≠ 0 := by simpa using h27
      refine AWP.seqk fun K14 hK14 => ?_
      refine AWP.region (AOPS.all (by simp (disch := first|omega|(simp only[ln];omega)) [idf_Wd', idf_numS, cells_numS, numS_fold, idf_numI, cells_numI, numI_fold, Pt.av, Pt.cells, spA, spC]; rfl) ?_)
      refine hK14 _ ?_
      refine AWP.ret ?_
      exact hK _ _ _ _ trivial ((Fin.mk (by simp [aRes, aResL, aRes1, idf_Wd', idf_numS, cells_numS, numS_fold, idf_numI, cells_numI, numI_fold, Pt.av, Pt.cells, spA, spC]; rfl)).cast (by rw [cmV, if_pos hne]))
    · try simp only [decide_eq_true_eq, decide_eq_false_iff_not] at h27
      have hne : ¬ cmX p q ≠ 0 := by simpa using h27
      refine AWP.skip ?_
      refine hK9 _ ?_
      refine AWP.seqk fun K15 hK15 => ?_
      refine AWP.draw 11 Try.checked.mixed (by kernel_rfl) (by simp) ?_
      simp only [List.take_succ_cons, List.take_zero, List.drop_succ_cons, List.drop_zero]
      refine DP.runFk 4 (by simp (disch := first|omega|(simp only[ln];omega)) [runDf.eq_def, runF1, runF2, stepF.eq_def, updo.eq_def, hupo.eq_def, opSto1.eq_def, List.take_succ_cons, List.take_zero, idf_Wd', idf_numS, cells_numS, numS_fold, idf_numI, cells_numI, numI_fold, Pt.av, Pt.cells, spA, spC]; rfl) fun fs16 hfs16 => ?_
      replace hfs16 : fs16.length = 4 := hfs16.trans rfl
      simp only [List.drop_succ_cons, List.drop_zero]
      refine DP.fcall (by_fc pY qW (by omega) (by omega)) rfl rfl rfl hb92 (by simp (disch := first|omega|(simp only[ln];omega)) [idf_Wd', idf_numS, cells_numS, numS_fold, idf_numI, cells_numI, numI_fold, Pt.av, Pt.cells, spA, spC]) (by simp (disch := first|omega|(simp only[ln];omega))) (by simp) ?_
      simp only [updo]
      refine DP.runFk 4 (by simp (disch := first|omega|(simp only[ln];omega)) [runDf.eq_def, runF1, runF2, stepF.eq_def, updo.eq_def, hupo.eq_def, opSto1.eq_def, List.take_succ_cons, List.take_zero, idf_Wd', idf_numS, cells_numS, numS_fold, idf_numI, cells_numI, numI_fold, Pt.av, Pt.cells, spA, spC]; rfl) fun fs17 hfs17 => ?_
      replace hfs17 : fs17.length = 4 := hfs17.trans rfl
      simp only [List.drop_succ_cons, List.drop_zero]
      refine DP.fcall (by_fc qY pW (by omega) (by omega)) rfl rfl rfl hb92 (by simp (disch := first|omega|(simp only[ln];omega)) [idf_Wd', idf_numS, cells_numS, numS_fold, idf_numI, cells_numI, numI_fold, Pt.av, Pt.cells, spA, spC]) (by simp (disch := first|omega|(simp only[ln];omega))) (by simp) ?_
      simp only [updo]
      refine DP.fcall (hcy) rfl rfl rfl hb88 (by simp (disch := first|omega|(simp only[ln];omega)) [idf_Wd', idf_numS, cells_numS, numS_fold, idf_numI, cells_numI, numI_fold, Pt.av, Pt.cells, spA, spC]) (by simp (disch := first|omega|(simp only[ln];omega))) (by simp) ?_
      simp only [updo]
      refine DQ.runF (m := 11) (by simp only [List.length_append, List.length_cons, List.length_nil, hfs16, hfs17]; omega) _ _ _ (by kernel_rfl) rfl (by simp (disch := first|omega|(simp only[ln];omega)) [runDf.eq_def, runF1, runF2, stepF.eq_def, updo.eq_def, hupo.eq_def, opSto1.eq_def, idf_Wd', idf_numS, cells_numS, numS_fold, idf_numI, cells_numI, numI_fold, Pt.av, Pt.cells, spA, spC]; rfl) ?_
      refine hK15 _ ?_
      refine AWP.ret ?_
      exact hK _ _ _ _ trivial ((Fin.mk (by simp [aRes, aResL, aRes1, idf_Wd', idf_numS, cells_numS, numS_fold, idf_numI, cells_numI, numI_fold, Pt.av, Pt.cells, spA, spC]; rfl)).cast (by rw [cmV, if_neg hne]))

theorem l3CmpX_fc (p q : Pt) (hp : p.ok) (hq : q.ok) : FC Try.prog 124 [l3A p.x.v p.y.v p.w.v, l3A q.x.v q.y.v q.w.v] (.int .i64 (cmX p q)) := by
  have pX := W4.bg hp.1
  have pY := W4.bg hp.2.1
  have pW := W4.bg hp.2.2
  have qX := W4.bg hq.1
  have qY := W4.bg hq.2.1
  have qW := W4.bg hq.2.2
  have hcx : FC Try.prog 168 [numS (p.x.v * q.w.v), numS (q.x.v * p.w.v)] (.int .i64 (cmX p q)) := l1Cmp_fc (pX.mul qW) (qX.mul pW) (by omega) (by omega)
  refine FC.body Try.func124 rfl (by simp [idfL, idf, l3A, l3C, idf_Wd']) (by simp [idfL, idf, idfLL_iff, idf_Wd', idf_numS, cells_numS, numS_fold, idf_numI, cells_numI, numI_fold, l3A, l3C]) 16 rfl fun nx K hK => ?_
  refine AWP.seqk fun K1 hK1 => ?_
  refine AWP.region (AOPS.all (by simp (disch := first|omega|(simp only[ln];omega)) [idf_Wd', idf_numS, cells_numS, numS_fold, idf_numI, cells_numI, numI_fold, l3A, l3C]; rfl) ?_)
  refine hK1 _ ?_
  refine AWP.seqk fun K2 hK2 => ?_
  refine AWP.draw 11 Try.checked.mixed (by kernel_rfl) (by simp) ?_
  simp only [List.take_succ_cons, List.take_zero, List.drop_succ_cons, List.drop_zero]
  refine DP.runFk 4 (by simp (disch := first|omega|(simp only[ln];omega)) [runDf.eq_def, runF1, runF2, stepF.eq_def, updo.eq_def, hupo.eq_def, opSto1.eq_def, List.take_succ_cons, List.take_zero, idf_Wd', idf_numS, cells_numS, numS_fold, idf_numI, cells_numI, numI_fold, l3A, l3C]; rfl) fun fs3 hfs3 => ?_
  replace hfs3 : fs3.length = 4 := hfs3.trans rfl
  simp only [List.drop_succ_cons, List.drop_zero]
  refine DP.fcall (l1Mul_fc pX qW (by omega) (by omega)) rfl rfl rfl hb105 (by simp (disch := first|omega|(simp only[ln];omega)) [idf_Wd', idf_numS, cells_numS, numS_fold, idf_numI, cells_numI, numI_fold, l3A, l3C]) (by simp (disch := first|omega|(simp only[ln];omega))) (by simp) ?_
  simp only [updo]
  refine DP.runFk 4 (by simp (disch := first|omega|(simp only[ln];omega)) [runDf.eq_def, runF1, runF2, stepF.eq_def, updo.eq_def, hupo.eq_def, opSto1.eq_def, List.take_succ_cons, List.take_zero, idf_Wd', idf_numS, cells_numS, numS_fold, idf_numI, cells_numI, numI_fold, l3A, l3C]; rfl) fun fs4 hfs4 => ?_
  replace hfs4 : fs4.length = 4 := hfs4.trans rfl
  simp only [List.drop_succ_cons, List.drop_zero]
  refine DP.fcall (l1Mul_fc qX pW (by omega) (by omega)) rfl rfl rfl hb105 (by simp (disch := first|omega|(simp only[ln];omega)) [idf_Wd', idf_numS, cells_numS, numS_fold, idf_numI, cells_numI, numI_fold, l3A, l3C]) (by simp (disch := first|omega|(simp only[ln];omega))) (by simp) ?_
  simp only [updo]
  refine DP.fcall (hcx) rfl rfl rfl hb168 (by simp (disch := first|omega|(simp only[ln];omega)) [idf_Wd', idf_numS, cells_numS, numS_fold, idf_numI, cells_numI, numI_fold, l3A, l3C]) (by simp (disch := first|omega|(simp only[ln];omega))) (by simp) ?_
  simp only [updo]
  refine DQ.runF (m := 11) (by simp only [List.length_append, List.length_cons, List.length_nil, hfs3, hfs4]; omega) _ _ _ (by kernel_rfl) rfl (by simp (disch := first|omega|(simp only[ln];omega)) [runDf.eq_def, runF1, runF2, stepF.eq_def, updo.eq_def, hupo.eq_def, opSto1.eq_def, idf_Wd', idf_numS, cells_numS, numS_fold, idf_numI, cells_numI, numI_fold, l3A, l3C]; rfl) ?_
  refine hK2 _ ?_
  refine AWP.ret ?_
  exact hK _ _ _ _ trivial (Fin.mk (by simp (disch := first|omega|(simp only[ln];omega)) [aRes, aResL, aRes1, idf_Wd', idf_numS, cells_numS, numS_fold, idf_numI, cells_numI, numI_fold, l3A, l3C]))

theorem l3CmpY_fc (p q : Pt) (hp : p.ok) (hq : q.ok) : FC Try.prog 125 [l3A p.x.v p.y.v p.w.v, l3A q.x.v q.y.v q.w.v] (.int .i64 (cmY p q)) := by
  have pX := W4.bg hp.1
  have pY := W4.bg hp.2.1
  have pW := W4.bg hp.2.2
  have qX := W4.bg hq.1
  have qY := W4.bg hq.2.1
  have qW := W4.bg hq.2.2
  have hcy : FC Try.prog 168 [numS (p.y.v * q.w.v), numS (q.y.v * p.w.v)] (.int .i64 (cmY p q)) := l1Cmp_fc (pY.mul qW) (qY.mul pW) (by omega) (by omega)
  refine FC.body Try.func125 rfl (by simp [idfL, idf, l3A, l3C, idf_Wd']) (by simp [idfL, idf, idfLL_iff, idf_Wd', idf_numS, cells_numS, numS_fold, idf_numI, cells_numI, numI_fold, l3A, l3C]) 16 rfl fun nx K hK => ?_
  refine AWP.seqk fun K1 hK1 => ?_
  refine AWP.region (AOPS.all (by simp (disch := first|omega|(simp only[ln];omega)) [idf_Wd', idf_numS, cells_numS, numS_fold, idf_numI, cells_numI, numI_fold, l3A, l3C]; rfl) ?_)
  refine hK1 _ ?_
  refine AWP.seqk fun K2 hK2 => ?_
  refine AWP.draw 11 Try.checked.mixed (by kernel_rfl) (by simp) ?_
  simp only [List.take_succ_cons, List.take_zero, List.drop_succ_cons, List.drop_zero]
  refine DP.runFk 4 (by simp (disch := first|omega|(simp only[ln];omega)) [runDf.eq_def, runF1, runF2, stepF.eq_def, updo.eq_def, hupo.eq_def, opSto1.eq_def, List.take_succ_cons, List.take_zero, idf_Wd', idf_numS, cells_numS, numS_fold, idf_numI, cells_numI, numI_fold, l3A, l3C]; rfl) fun fs3 hfs3 => ?_
  replace hfs3 : fs3.length = 4 := hfs3.trans rfl
  simp only [List.drop_succ_cons, List.drop_zero]
  refine DP.fcall (l1Mul_fc pY qW (by omega) (by omega)) rfl rfl rfl hb105 (by simp (disch := first|omega|(simp only[ln];omega)) [idf_Wd', idf_numS, cells_numS, numS_fold, idf_numI, cells_numI, numI_fold, l3A, l3C]) (by simp (disch := first|omega|(simp only[ln];omega))) (by simp) ?_
  simp only [updo]
  refine DP.runFk 4 (by simp (disch := first|omega|(simp only[ln];omega)) [runDf.eq_def, runF1, runF2, stepF.eq_def, updo.eq_def, hupo.eq_def, opSto1.eq_def, List.take_succ_cons, List.take_zero, idf_Wd', idf_numS, cells_numS, numS_fold, idf_numI, cells_numI, numI_fold, l3A, l3C]; rfl) fun fs4 hfs4 => ?_
  replace hfs4 : fs4.length = 4 := hfs4.trans rfl
  simp only [List.drop_succ_cons, List.drop_zero]
  refine DP.fcall (l1Mul_fc qY pW (by omega) (by omega)) rfl rfl rfl hb105 (by simp (disch := first|omega|(simp only[ln];omega)) [idf_Wd', idf_numS, cells_numS, numS_fold, idf_numI, cells_numI, numI_fold, l3A, l3C]) (by simp (disch := first|omega|(simp only[ln];omega))) (by simp) ?_
  simp only [updo]
  refine DP.fcall (hcy) rfl rfl rfl hb168 (by simp (disch := first|omega|(simp only[ln];omega)) [idf_Wd', idf_numS, cells_numS, numS_fold, idf_numI, cells_numI, numI_fold, l3A, l3C]) (by simp (disch := first|omega|(simp only[ln];omega))) (by simp) ?_
  simp only [updo]
  refine DQ.runF (m := 11) (by simp only [List.length_append, List.length_cons, List.length_nil, hfs3, hfs4]; omega) _ _ _ (by kernel_rfl) rfl (by simp (disch := first|omega|(simp only[ln];omega)) [runDf.eq_def, runF1, runF2, stepF.eq_def, updo.eq_def, hupo.eq_def, opSto1.eq_def, idf_Wd', idf_numS, cells_numS, numS_fold, idf_numI, cells_numI, numI_fold, l3A, l3C]; rfl) ?_
  refine hK2 _ ?_
  refine AWP.ret ?_
  exact hK _ _ _ _ trivial (Fin.mk (by simp (disch := first|omega|(simp only[ln];omega)) [aRes, aResL, aRes1, idf_Wd', idf_numS, cells_numS, numS_fold, idf_numI, cells_numI, numI_fold, l3A, l3C]))

end Go.Proofs.Ytmaebeknmiomnaa

/- Walks: spots and segments. -/
namespace Go.Proofs.Ytmaebeknmiomnaa
open Go Go.RowKit
set_option linter.unusedSimpArgs false
set_option linter.unusedVariables false
set_option maxRecDepth 100000
attribute [local simp] List.getElem?_cons_zero List.getElem?_cons_succ List.getElem?_toArray runOps stepOp.eq_def agd.eq_def dstOk.eq_def opVal.eq_def opNew.eq_def opSto.eq_def ev.eq_def cv.eq_def puts_some puts_none upd_ap lst.eq_def aBin.eq_def aUn.eq_def aBi_str aBi_isl aBi_osl aBi_nsl aBi_max aBi_min aBi_max3 aConv.eq_def aLd.eq_def aLoad.eq_def aField.eq_def aFld.eq_def aIdx_isl aIdx_osl aSlc_isl aSlc_osl aSlc_str aSlc_nsl bnd.eq_def evs_nil evs_cons aBuild.eq_def aFill splice.eq_def cells_agg cells_int cells_bool cells_str cells_nil cells_nsl cells_isl cells_osl cells_ptr cells_ip cells_fn cells_Wd one_int one_bool one_str one_nil one_nsl one_isl one_osl one_ptr one_ip one_fn one_Wd aSets hupd_eq hupd_ne wrap_i64s wrap_u64s wrap_u32s wrap_u8s wd_getD wd_set wd_len wd_replicate wd_one wd_fold fz_osl hupd_same aSix.eq_def aEqS.eq_def aEqB_bool aEqB_nsl aEqB_nil
attribute [local simp] szT2 byT2 agT2 unT2 zoT2 szT3 byT3 agT3 unT3 zoT3 szT26 byT26 agT26 flT26 fdT26_0 fdT26_1 fdT26_2 fdT26_3 zoT26 szT28 byT28 agT28 flT28 fdT28_0 fdT28_1 fdT28_2 zoT28 szT67 byT67 agT67 flT67 fdT67_0 fdT67_1 zoT67 szT69 byT69 agT69 flT69 fdT69_0 fdT69_1 zoT69 szT134 byT134 agT134 flT134 fdT134_0 fdT134_1 zoT134 szT136 byT136 agT136 flT136 fdT136_0 fdT136_1 zoT136

theorem eqW2 (p q : Sp) : eqW Try.prog 8 67 [.int .i64 p.x, .int .i64 p.y] [.int .i64 q.x, .int .i64 q.y] = some (decide (p = q)) := by
  obtain ⟨a, b⟩ := p
  obtain ⟨a', b'⟩ := q
  have hs : Try.prog.stoodInHeld 67 = false := by kernel_rfl
  have hz : szOf Try.prog 2 = some 1 := by kernel_rfl
  have ha : aggT Try.prog 2 = some false := by kernel_rfl
  have e1 : ∀ (n : Nat) (x y : Int), eqW Try.prog (n + 1) 2 [.int .i64 x] [.int .i64 y] = some (x == y) := fun n x y => by
    unfold eqW
    simp only [Try.underlying2]
    first | rfl | simp [eqF]
  unfold eqW
  simp only [Try.underlying67, hs]
  simp [eqF, hz, ha, e1]
  rw [Bool.eq_iff_iff]
  simp
theorem lsS_dec (p q : Sp) : decide (cmS p q < 0) = lsS p q := by rw [Bool.eq_iff_iff, decide_eq_true_eq]; exact cmS_neg
theorem wdZ_l {n : Int} (hf : fits n = true) : wdZ n = .agg (W4z n).l := by
  have e := wdT_l n
  unfold wdT at e
  rw [if_pos hf] at e; exact e
theorem wideOf4_fc (n : Int) (h1 : -9223372036854775808 ≤ n) (h2 : n ≤ 9223372036854775807) (hf : fits n = true) : FC Try.prog 20 [.int .i64 n] (.agg [.int .u64 (W4z n).a, .int .u64 (W4z n).b, .int .u64 (W4z n).c, .int .u64 (W4z n).d]) := by
  have h := wideOf_fc n h1 h2
  rw [wdZ_l hf] at h; exact h
theorem inM_fits {x : Int} (h : inM x = true) : fits x = true := by
  have := inM_b h; unfold fits; simp; omega
theorem sm1 {x y : Int} (hx : inM x = true) (hy : inM y = true) : sm x y 1 = true := by
  have := inM_b hx; have := inM_b hy
  have e : (2 : Nat) ^ 80 = 1208925819614629174706176 := by decide
  simp only [sm, Bool.and_eq_true, decide_eq_true_eq, bitLen_le, e]; omega

theorem within_fc (n a b : Int) : FC Try.prog 135 [.int .i64 n, .int .i64 a, .int .i64 b] (.bool (decide (a ≤ n) && decide (n ≤ b))) := by
  refine FC.body Try.func135 rfl (by simp [idfL, idf, idfLL_iff, idf_Wd']) (by simp [idfL, idf, idfLL_iff, idf_Wd']) 15 rfl fun nx K hK => ?_
  refine AWP.seqk fun K1 hK1 => ?_
  refine AWP.region (AOPS.all (by simp (disch := first|omega|(simp only[ln];omega)) [idf_Wd']; rfl) ?_)
  refine hK1 _ ?_
  refine AWP.seqk fun K2 hK2 => ?_
  cases h : decide (a ≤ n)
  · refine AWP.region (AOPS.all (by simp (disch := first|omega|(simp only[ln];omega)) [idf_Wd', h]; rfl) ?_)
    refine hK2 _ ?_
    refine AWP.ret ?_
    exact hK _ _ _ _ trivial ((Fin.mk (by simp [aRes, aResL, aRes1, idf_Wd']; rfl)).cast (by rw [h]; rfl))
  · refine AWP.region (AOPS.all (by simp (disch := first|omega|(simp only[ln];omega)) [idf_Wd', h]; rfl) ?_)
    refine hK2 _ ?_
    refine AWP.ret ?_
    exact hK _ _ _ _ trivial ((Fin.mk (by simp [aRes, aResL, aRes1, idf_Wd']; rfl)).cast (by rw [h]; rfl))

theorem withinM_fc (n : Int) : FC Try.prog 135 [.int .i64 n, .int .i64 (-1000000), .int .i64 1000000] (.bool (inM n)) := within_fc n (-1000000) 1000000
theorem spotOkI_fc (p : Sp) : FC Try.prog 49 [p.av] (.bool p.good) := by
  refine FC.body Try.func49 rfl (by simp [idfL, idf, Sp.av, Sp.cells, Sg.av, Sg.cells]) (by simp [idfL, idf, idfLL_iff, idf_Wd', Sp.av, Sp.cells, Sg.av, Sg.cells]) 11 rfl fun nx K hK => ?_
  refine AWP.seqk fun K1 hK1 => ?_
  refine AWP.region (AOPS.all (by simp (disch := first|omega|(simp only[ln];omega)) [idf_Wd', Sp.av, Sp.cells, Sg.av, Sg.cells]; rfl) ?_)
  refine hK1 _ ?_
  refine AWP.seqk fun K2 hK2 => ?_
  cases hx : inM p.x
  · refine AWP.region ?_
    refine AOPS.runk 2 (by simp (disch := first|omega|(simp only[ln];omega)) [List.take_succ_cons, List.take_zero, idf_Wd', Sp.av, Sp.cells, Sg.av, Sg.cells, hx]; rfl) ?_
    simp only [List.drop_succ_cons, List.drop_zero]
    refine AOPS.fcall (withinM_fc p.x) rfl rfl rfl hb135 (by simp (disch := first|omega|(simp only[ln];omega)) [idf_Wd', hx, Sp.av, Sp.cells, Sg.av, Sg.cells]) (by simp (disch := first|omega|(simp only[ln];omega)) [hx]) (by simp) ?_
    simp only [puts_some, updo]
    refine AOPS.all (by simp (disch := first|omega|(simp only[ln];omega)) [idf_Wd', Sp.av, Sp.cells, Sg.av, Sg.cells, hx]; rfl) ?_
    refine hK2 _ ?_
    refine AWP.ret ?_
    exact hK _ _ _ _ trivial ((Fin.mk (by simp [aRes, aResL, aRes1, idf_Wd', Sp.av, Sp.cells, Sg.av, Sg.cells]; rfl)).cast (by unfold Sp.good; rw [hx]; rfl))
  · refine AWP.region ?_
    refine AOPS.runk 2 (by simp (disch := first|omega|(simp only[ln];omega)) [List.take_succ_cons, List.take_zero, idf_Wd', Sp.av, Sp.cells, Sg.av, Sg.cells, hx]; rfl) ?_
    simp only [List.drop_succ_cons, List.drop_zero]
    refine AOPS.fcall (withinM_fc p.x) rfl rfl rfl hb135 (by simp (disch := first|omega|(simp only[ln];omega)) [idf_Wd', hx, Sp.av, Sp.cells, Sg.av, Sg.cells]) (by simp (disch := first|omega|(simp only[ln];omega)) [hx]) (by simp) ?_
    simp only [puts_some, updo]
    refine AOPS.runk 3 (by simp (disch := first|omega|(simp only[ln];omega)) [List.take_succ_cons, List.take_zero, idf_Wd', Sp.av, Sp.cells, Sg.av, Sg.cells, hx]; rfl) ?_
    simp only [List.drop_succ_cons, List.drop_zero]
    refine AOPS.fcall (withinM_fc p.y) rfl rfl rfl hb135 (by simp (disch := first|omega|(simp only[ln];omega)) [idf_Wd', hx, Sp.av, Sp.cells, Sg.av, Sg.cells]) (by simp (disch := first|omega|(simp only[ln];omega)) [hx]) (by simp) ?_
    simp only [puts_some, updo]
    refine AOPS.all (by simp (disch := first|omega|(simp only[ln];omega)) [idf_Wd', Sp.av, Sp.cells, Sg.av, Sg.cells, hx]; rfl) ?_
    refine hK2 _ ?_
    refine AWP.ret ?_
    exact hK _ _ _ _ trivial ((Fin.mk (by simp [aRes, aResL, aRes1, idf_Wd', Sp.av, Sp.cells, Sg.av, Sg.cells]; rfl)).cast (by unfold Sp.good; rw [hx]; rfl))

theorem cmpSpots_fc (p q : Sp) : FC Try.prog 134 [p.av, q.av] (.int .i64 (cmS p q)) := by
  refine FC.body Try.func134 rfl (by simp [idfL, idf, Sp.av, Sp.cells, Sg.av, Sg.cells]) (by simp [idfL, idf, idfLL_iff, idf_Wd', Sp.av, Sp.cells, Sg.av, Sg.cells]) 29 rfl fun nx K hK => ?_
  refine AWP.seqk fun K1 hK1 => ?_
  refine AWP.region (AOPS.all (by simp (disch := first|omega|(simp only[ln];omega)) [idf_Wd', Sp.av, Sp.cells, Sg.av, Sg.cells]; rfl) ?_)
  refine hK1 _ ?_
  refine AWP.seqk fun K2 hK2 => ?_
  refine AWP.block ?_
  refine AWP.seqk fun K3 hK3 => ?_
  refine AWP.region (AOPS.all (by simp (disch := first|omega|(simp only[ln];omega)) [idf_Wd', Sp.av, Sp.cells, Sg.av, Sg.cells, eqW2]; rfl) ?_)
  refine hK3 _ ?_
  refine cond_ok (decide (p = q)) (by simp (disch := first|omega|(simp only[ln];omega))) (fun h5 => ?_) (fun h5 => ?_)
  · try simp only [decide_eq_true_eq, decide_eq_false_iff_not] at h5
    refine AWP.seqk fun K4 hK4 => ?_
    refine AWP.region (AOPS.all (by simp (disch := first|omega|(simp only[ln];omega)) [idf_Wd', Sp.av, Sp.cells, Sg.av, Sg.cells]; rfl) ?_)
    refine hK4 _ ?_
    refine AWP.ret ?_
    exact hK _ _ _ _ trivial ((Fin.mk (by simp [aRes, aResL, aRes1, idf_Wd', Sp.av, Sp.cells, Sg.av, Sg.cells]; rfl)).cast (by unfold cmS; rw [if_pos h5]))
  · try simp only [decide_eq_true_eq, decide_eq_false_iff_not] at h5
    have hv : cmS p q = if lsS p q = true then -1 else 1 := by unfold cmS; rw [if_neg h5]
    refine AWP.seqk fun K5 hK5 => ?_
    by_cases q1 : p.x < q.x
    · have hl : lsS p q = true := by simp [lsS, q1]
      have c1 : decide (p.x < q.x) = true := by simp [q1]
      refine AWP.region (AOPS.all (by simp (disch := first|omega|(simp only[ln];omega)) [idf_Wd', Sp.av, Sp.cells, Sg.av, Sg.cells, c1]; rfl) ?_)
      refine hK5 _ ?_
      refine cond_ok _ (by simp (disch := first|omega|(simp only[ln];omega)); rfl) (fun h9 => ?_) (fun h9 => ?_)
      · try simp only [decide_eq_true_eq, decide_eq_false_iff_not] at h9
        refine AWP.seqk fun K6 hK6 => ?_
        refine AWP.region (AOPS.all (by simp (disch := first|omega|(simp only[ln];omega)) [idf_Wd', Sp.av, Sp.cells, Sg.av, Sg.cells]; rfl) ?_)
        refine hK6 _ ?_
        refine AWP.ret ?_
        exact hK _ _ _ _ trivial ((Fin.mk (by simp [aRes, aResL, aRes1, idf_Wd', Sp.av, Sp.cells, Sg.av, Sg.cells]; rfl)).cast (by rw [hv, hl]; rfl))
      · simp at h9
    · have c1 : decide (p.x < q.x) = false := by simp; omega
      by_cases q2 : p.x = q.x
      · have c2 : (p.x == q.x) = true := by simp [q2]
        refine AWP.region (AOPS.all (by simp (disch := first|omega|(simp only[ln];omega)) [idf_Wd', Sp.av, Sp.cells, Sg.av, Sg.cells, c1, c2]; rfl) ?_)
        refine hK5 _ ?_
        refine cond_ok (decide (p.y < q.y)) (by simp (disch := first|omega|(simp only[ln];omega))) (fun h9 => ?_) (fun h9 => ?_)
        · try simp only [decide_eq_true_eq, decide_eq_false_iff_not] at h9
          refine AWP.seqk fun K7 hK7 => ?_
          refine AWP.region (AOPS.all (by simp (disch := first|omega|(simp only[ln];omega)) [idf_Wd', Sp.av, Sp.cells, Sg.av, Sg.cells]; rfl) ?_)
          refine hK7 _ ?_
          refine AWP.ret ?_
          exact hK _ _ _ _ trivial ((Fin.mk (by simp [aRes, aResL, aRes1, idf_Wd', Sp.av, Sp.cells, Sg.av, Sg.cells]; rfl)).cast (by rw [hv, show lsS p q = true by simp [lsS, q2, h9]]; rfl))
        · try simp only [decide_eq_true_eq, decide_eq_false_iff_not] at h9
          refine AWP.skip ?_
          refine hK2 _ ?_
          refine AWP.seqk fun K8 hK8 => ?_
          refine AWP.region (AOPS.all (by simp (disch := first|omega|(simp only[ln];omega)) [idf_Wd', Sp.av, Sp.cells, Sg.av, Sg.cells]; rfl) ?_)
          refine hK8 _ ?_
          refine AWP.ret ?_
          exact hK _ _ _ _ trivial ((Fin.mk (by simp [aRes, aResL, aRes1, idf_Wd', Sp.av, Sp.cells, Sg.av, Sg.cells]; rfl)).cast (by rw [hv, show lsS p q = false by simp [lsS, q2]; omega]; rfl))
      · have c2 : (p.x == q.x) = false := by simp [q2]
        refine AWP.region (AOPS.all (by simp (disch := first|omega|(simp only[ln];omega)) [idf_Wd', Sp.av, Sp.cells, Sg.av, Sg.cells, c1, c2]; rfl) ?_)
        refine hK5 _ ?_
        refine cond_ok _ (by simp (disch := first|omega|(simp only[ln];omega)); rfl) (fun h9 => ?_) (fun h9 => ?_)
        · simp at h9
        · try simp only [decide_eq_true_eq, decide_eq_false_iff_not] at h9
          refine AWP.skip ?_
          refine hK2 _ ?_
          refine AWP.seqk fun K9 hK9 => ?_
          refine AWP.region (AOPS.all (by simp (disch := first|omega|(simp only[ln];omega)) [idf_Wd', Sp.av, Sp.cells, Sg.av, Sg.cells]; rfl) ?_)
          refine hK9 _ ?_
          refine AWP.ret ?_
          exact hK _ _ _ _ trivial ((Fin.mk (by simp [aRes, aResL, aRes1, idf_Wd', Sp.av, Sp.cells, Sg.av, Sg.cells]; rfl)).cast (by rw [hv, show lsS p q = false by simp [lsS, q2]; omega]; rfl))

theorem segOkI_fc (s : Sg) : FC Try.prog 48 [s.av] (.bool s.good) := by
  refine FC.body Try.func48 rfl (by simp [idfL, idf, Sp.av, Sp.cells, Sg.av, Sg.cells]) (by simp [idfL, idf, idfLL_iff, idf_Wd', Sp.av, Sp.cells, Sg.av, Sg.cells]) 19 rfl fun nx K hK => ?_
  refine AWP.seqk fun K1 hK1 => ?_
  refine AWP.region (AOPS.all (by simp (disch := first|omega|(simp only[ln];omega)) [idf_Wd', Sp.av, Sp.cells, Sg.av, Sg.cells]; rfl) ?_)
  refine hK1 _ ?_
  refine AWP.seqk fun K2 hK2 => ?_
  cases ha : s.a.good
  · refine AWP.region ?_
    refine AOPS.runk 2 (by simp (disch := first|omega|(simp only[ln];omega)) [List.take_succ_cons, List.take_zero, idf_Wd', Sp.av, Sp.cells, Sg.av, Sg.cells, ha]; rfl) ?_
    simp only [List.drop_succ_cons, List.drop_zero]
    refine AOPS.fcall (spotOkI_fc s.a) rfl rfl rfl hb49 (by simp (disch := first|omega|(simp only[ln];omega)) [idf_Wd', ha, Sp.av, Sp.cells, Sg.av, Sg.cells]) (by simp (disch := first|omega|(simp only[ln];omega)) [ha]) (by simp) ?_
    simp only [puts_some, updo]
    refine AOPS.all (by simp (disch := first|omega|(simp only[ln];omega)) [idf_Wd', Sp.av, Sp.cells, Sg.av, Sg.cells, ha]; rfl) ?_
    refine hK2 _ ?_
    refine AWP.ret ?_
    exact hK _ _ _ _ trivial ((Fin.mk (by simp [aRes, aResL, aRes1, idf_Wd', Sp.av, Sp.cells, Sg.av, Sg.cells]; rfl)).cast (by unfold Sg.good; rw [ha]; rfl))
  · cases hb : s.b.good
    · refine AWP.region ?_
      refine AOPS.runk 2 (by simp (disch := first|omega|(simp only[ln];omega)) [List.take_succ_cons, List.take_zero, idf_Wd', Sp.av, Sp.cells, Sg.av, Sg.cells, ha, hb]; rfl) ?_
      simp only [List.drop_succ_cons, List.drop_zero]
      refine AOPS.fcall (spotOkI_fc s.a) rfl rfl rfl hb49 (by simp (disch := first|omega|(simp only[ln];omega)) [idf_Wd', ha, hb, Sp.av, Sp.cells, Sg.av, Sg.cells]) (by simp (disch := first|omega|(simp only[ln];omega)) [ha, hb]) (by simp) ?_
      simp only [puts_some, updo]
      refine AOPS.runk 3 (by simp (disch := first|omega|(simp only[ln];omega)) [List.take_succ_cons, List.take_zero, idf_Wd', Sp.av, Sp.cells, Sg.av, Sg.cells, ha, hb]; rfl) ?_
      simp only [List.drop_succ_cons, List.drop_zero]
      refine AOPS.fcall (spotOkI_fc s.b) rfl rfl rfl hb49 (by simp (disch := first|omega|(simp only[ln];omega)) [idf_Wd', ha, hb, Sp.av, Sp.cells, Sg.av, Sg.cells]) (by simp (disch := first|omega|(simp only[ln];omega)) [ha, hb]) (by simp) ?_
      simp only [puts_some, updo]
      refine AOPS.all (by simp (disch := first|omega|(simp only[ln];omega)) [idf_Wd', Sp.av, Sp.cells, Sg.av, Sg.cells, ha, hb]; rfl) ?_
      refine hK2 _ ?_
      refine AWP.ret ?_
      exact hK _ _ _ _ trivial ((Fin.mk (by simp [aRes, aResL, aRes1, idf_Wd', Sp.av, Sp.cells, Sg.av, Sg.cells]; rfl)).cast (by unfold Sg.good; rw [ha, hb]; rfl))
    · refine AWP.region ?_
      refine AOPS.runk 2 (by simp (disch := first|omega|(simp only[ln];omega)) [List.take_succ_cons, List.take_zero, idf_Wd', Sp.av, Sp.cells, Sg.av, Sg.cells, ha, hb, lsS_dec]; rfl) ?_
      simp only [List.drop_succ_cons, List.drop_zero]
      refine AOPS.fcall (spotOkI_fc s.a) rfl rfl rfl hb49 (by simp (disch := first|omega|(simp only[ln];omega)) [idf_Wd', ha, hb, lsS_dec, Sp.av, Sp.cells, Sg.av, Sg.cells]) (by simp (disch := first|omega|(simp only[ln];omega)) [ha, hb, lsS_dec]) (by simp) ?_
      simp only [puts_some, updo]
      refine AOPS.runk 3 (by simp (disch := first|omega|(simp only[ln];omega)) [List.take_succ_cons, List.take_zero, idf_Wd', Sp.av, Sp.cells, Sg.av, Sg.cells, ha, hb, lsS_dec]; rfl) ?_
      simp only [List.drop_succ_cons, List.drop_zero]
      refine AOPS.fcall (spotOkI_fc s.b) rfl rfl rfl hb49 (by simp (disch := first|omega|(simp only[ln];omega)) [idf_Wd', ha, hb, lsS_dec, Sp.av, Sp.cells, Sg.av, Sg.cells]) (by simp (disch := first|omega|(simp only[ln];omega)) [ha, hb, lsS_dec]) (by simp) ?_
      simp only [puts_some, updo]
      refine AOPS.runk 6 (by simp (disch := first|omega|(simp only[ln];omega)) [List.take_succ_cons, List.take_zero, idf_Wd', Sp.av, Sp.cells, Sg.av, Sg.cells, ha, hb, lsS_dec]; rfl) ?_
      simp only [List.drop_succ_cons, List.drop_zero]
      refine AOPS.fcall (cmpSpots_fc s.a s.b) rfl rfl rfl hb134 (by simp (disch := first|omega|(simp only[ln];omega)) [idf_Wd', ha, hb, lsS_dec, Sp.av, Sp.cells, Sg.av, Sg.cells]) (by simp (disch := first|omega|(simp only[ln];omega)) [ha, hb, lsS_dec]) (by simp) ?_
      simp only [puts_some, updo]
      refine AOPS.all (by simp (disch := first|omega|(simp only[ln];omega)) [idf_Wd', Sp.av, Sp.cells, Sg.av, Sg.cells, ha, hb, lsS_dec]; rfl) ?_
      refine hK2 _ ?_
      refine AWP.ret ?_
      exact hK _ _ _ _ trivial ((Fin.mk (by simp [aRes, aResL, aRes1, idf_Wd', Sp.av, Sp.cells, Sg.av, Sg.cells]; rfl)).cast (by unfold Sg.good; rw [ha, hb]; rfl))

theorem pointOfI_fc (p : Sp) (hp : p.good = true) : FC Try.prog 50 [p.av] (.agg [.int .u64 (ptS p).x.a, .int .u64 (ptS p).x.b, .int .u64 (ptS p).x.c, .int .u64 (ptS p).x.d, .int .u64 (ptS p).y.a, .int .u64 (ptS p).y.b, .int .u64 (ptS p).y.c, .int .u64 (ptS p).y.d, .int .u64 (ptS p).w.a, .int .u64 (ptS p).w.b, .int .u64 (ptS p).w.c, .int .u64 (ptS p).w.d]) := by
  have pb := Sp.b hp
  have hx : inM p.x = true := by simp [inM]; omega
  have hy : inM p.y = true := by simp [inM]; omega
  have hs := sm1 hx hy
  refine FC.body Try.func50 rfl (by simp [idfL, idf, Sp.av, Sp.cells, Sg.av, Sg.cells]) (by simp [idfL, idf, idfLL_iff, idf_Wd', Sp.av, Sp.cells, Sg.av, Sg.cells]) 11 rfl fun nx K hK => ?_
  refine AWP.seqk fun K1 hK1 => ?_
  refine AWP.region (AOPS.all (by simp (disch := first|omega|(simp only[ln];omega)) [idf_Wd', Sp.av, Sp.cells, Sg.av, Sg.cells]; rfl) ?_)
  refine hK1 _ ?_
  refine AWP.seqk fun K2 hK2 => ?_
  refine AWP.draw 8 Try.checked.mixed (by kernel_rfl) (by simp) ?_
  simp only [List.take_succ_cons, List.take_zero, List.drop_succ_cons, List.drop_zero]
  refine DP.runFk 2 (by simp (disch := first|omega|(simp only[ln];omega)) [runDf.eq_def, runF1, runF2, stepF.eq_def, updo.eq_def, hupo.eq_def, opSto1.eq_def, List.take_succ_cons, List.take_zero, idf_Wd', Sp.av, Sp.cells, Sg.av, Sg.cells]; rfl) fun fs3 hfs3 => ?_
  replace hfs3 : fs3.length = 2 := hfs3.trans rfl
  simp only [List.drop_succ_cons, List.drop_zero]
  refine DP.fcall (wideOf4_fc p.x (by omega) (by omega) (inM_fits hx)) rfl rfl rfl hb20 (by simp (disch := first|omega|(simp only[ln];omega)) [idf_Wd', Sp.av, Sp.cells, Sg.av, Sg.cells]) (by simp (disch := first|omega|(simp only[ln];omega))) (by simp) ?_
  simp only [updo]
  refine DP.runFk 2 (by simp (disch := first|omega|(simp only[ln];omega)) [runDf.eq_def, runF1, runF2, stepF.eq_def, updo.eq_def, hupo.eq_def, opSto1.eq_def, List.take_succ_cons, List.take_zero, idf_Wd', Sp.av, Sp.cells, Sg.av, Sg.cells]; rfl) fun fs4 hfs4 => ?_
  replace hfs4 : fs4.length = 2 := hfs4.trans rfl
  simp only [List.drop_succ_cons, List.drop_zero]
  refine DP.fcall (wideOf4_fc p.y (by omega) (by omega) (inM_fits hy)) rfl rfl rfl hb20 (by simp (disch := first|omega|(simp only[ln];omega)) [idf_Wd', Sp.av, Sp.cells, Sg.av, Sg.cells]) (by simp (disch := first|omega|(simp only[ln];omega))) (by simp) ?_
  simp only [updo]
  refine DP.fcall (wideOf4_fc 1 (by omega) (by omega) (by decide)) rfl rfl rfl hb20 (by simp (disch := first|omega|(simp only[ln];omega)) [idf_Wd', Sp.av, Sp.cells, Sg.av, Sg.cells]) (by simp (disch := first|omega|(simp only[ln];omega))) (by simp) ?_
  simp only [updo]
  refine DP.runFk 1 (by simp (disch := first|omega|(simp only[ln];omega)) [runDf.eq_def, runF1, runF2, stepF.eq_def, updo.eq_def, hupo.eq_def, opSto1.eq_def, List.take_succ_cons, List.take_zero, idf_Wd', Sp.av, Sp.cells, Sg.av, Sg.cells]; rfl) fun fs5 hfs5 => ?_
  replace hfs5 : fs5.length = 1 := hfs5.trans rfl
  simp only [List.drop_succ_cons, List.drop_zero]
  refine DQ.runF (m := 8) (by simp only [List.length_append, List.length_cons, List.length_nil, hfs3, hfs4, hfs5]; omega) _ _ _ (by kernel_rfl) rfl (by simp (disch := first|omega|(simp only[ln];omega)) [runDf.eq_def, runF1, runF2, stepF.eq_def, updo.eq_def, hupo.eq_def, opSto1.eq_def, idf_Wd', Sp.av, Sp.cells, Sg.av, Sg.cells]; rfl) ?_
  refine hK2 _ ?_
  refine AWP.ret ?_
  exact hK _ _ _ _ trivial ((Fin.mk (by simp [aRes, aResL, aRes1, idf_Wd', Sp.av, Sp.cells, Sg.av, Sg.cells]; rfl)).cast (by rw [ptS, pt3, if_pos hs]))

end Go.Proofs.Ytmaebeknmiomnaa

/- Walks: where segments meet, by the reference; FnExactMeet. -/
namespace Go.Proofs.Ytmaebeknmiomnaa
open Go Go.RowKit
set_option linter.unusedSimpArgs false
set_option linter.unusedVariables false
set_option maxRecDepth 100000
attribute [local simp] List.getElem?_cons_zero List.getElem?_cons_succ List.getElem?_toArray runOps stepOp.eq_def agd.eq_def dstOk.eq_def opVal.eq_def opNew.eq_def opSto.eq_def ev.eq_def cv.eq_def puts_some puts_none upd_ap lst.eq_def aBin.eq_def aUn.eq_def aBi_str aBi_isl aBi_osl aBi_nsl aBi_max aBi_min aBi_max3 aConv.eq_def aLd.eq_def aLoad.eq_def aField.eq_def aFld.eq_def aIdx_isl aIdx_osl aSlc_isl aSlc_osl aSlc_str aSlc_nsl bnd.eq_def evs_nil evs_cons aBuild.eq_def aFill splice.eq_def cells_agg cells_int cells_bool cells_str cells_nil cells_nsl cells_isl cells_osl cells_ptr cells_ip cells_fn cells_Wd one_int one_bool one_str one_nil one_nsl one_isl one_osl one_ptr one_ip one_fn one_Wd aSets hupd_eq hupd_ne wrap_i64s wrap_u64s wrap_u32s wrap_u8s wd_getD wd_set wd_len wd_replicate wd_one wd_fold fz_osl hupd_same aSix.eq_def aEqS.eq_def aEqB_bool aEqB_nsl aEqB_nil
attribute [local simp] szT2 byT2 agT2 unT2 zoT2 szT4 byT4 agT4 unT4 zoT4 szT67 byT67 agT67 flT67 fdT67_0 fdT67_1 zoT67 szT69 byT69 agT69 flT69 fdT69_0 fdT69_1 zoT69 szT111 byT111 agT111 elT111 unT111 zoT111 szT113 byT113 agT113 flT113 fdT113_0 fdT113_1 zoT113 szT115 byT115 agT115 flT115 fdT115_0 fdT115_1 fdT115_2 zoT115

theorem l1In_fc (n a b : Int) : FC Try.prog 199 [.int .i64 n, .int .i64 a, .int .i64 b] (.bool (decide (a ≤ n) && decide (n ≤ b))) := by
  refine FC.body Try.func199 rfl (by simp [idfL, idf, idfLL_iff, idf_Wd']) (by simp [idfL, idf, idfLL_iff, idf_Wd']) 15 rfl fun nx K hK => ?_
  refine AWP.seqk fun K1 hK1 => ?_
  refine AWP.region (AOPS.all (by simp (disch := first|omega|(simp only[ln];omega)) [idf_Wd']; rfl) ?_)
  refine hK1 _ ?_
  refine AWP.seqk fun K2 hK2 => ?_
  cases h : decide (a ≤ n)
  · refine AWP.region (AOPS.all (by simp (disch := first|omega|(simp only[ln];omega)) [idf_Wd', h]; rfl) ?_)
    refine hK2 _ ?_
    refine AWP.ret ?_
    exact hK _ _ _ _ trivial ((Fin.mk (by simp [aRes, aResL, aRes1, idf_Wd']; rfl)).cast (by rw [h]; rfl))
  · refine AWP.region (AOPS.all (by simp (disch := first|omega|(simp only[ln];omega)) [idf_Wd', h]; rfl) ?_)
    refine hK2 _ ?_
    refine AWP.ret ?_
    exact hK _ _ _ _ trivial ((Fin.mk (by simp [aRes, aResL, aRes1, idf_Wd']; rfl)).cast (by rw [h]; rfl))

theorem l1InM_fc (n : Int) : FC Try.prog 199 [.int .i64 n, .int .i64 (-1000000), .int .i64 1000000] (.bool (inM n)) := l1In_fc n (-1000000) 1000000
theorem spotOkS_fc (p : Sp) : FC Try.prog 114 [p.av] (.bool p.good) := by
  refine FC.body Try.func114 rfl (by simp [idfL, idf, Sp.av, Sp.cells, Sg.av, Sg.cells]) (by simp [idfL, idf, idfLL_iff, idf_Wd', Sp.av, Sp.cells, Sg.av, Sg.cells]) 11 rfl fun nx K hK => ?_
  refine AWP.seqk fun K1 hK1 => ?_
  refine AWP.region (AOPS.all (by simp (disch := first|omega|(simp only[ln];omega)) [idf_Wd', Sp.av, Sp.cells, Sg.av, Sg.cells]; rfl) ?_)
  refine hK1 _ ?_
  refine AWP.seqk fun K2 hK2 => ?_
  cases hx : inM p.x
  · refine AWP.region ?_
    refine AOPS.runk 2 (by simp (disch := first|omega|(simp only[ln];omega)) [List.take_succ_cons, List.take_zero, idf_Wd', Sp.av, Sp.cells, Sg.av, Sg.cells, hx]; rfl) ?_
    simp only [List.drop_succ_cons, List.drop_zero]
    refine AOPS.fcall (l1InM_fc p.x) rfl rfl rfl hb199 (by simp (disch := first|omega|(simp only[ln];omega)) [idf_Wd', hx, Sp.av, Sp.cells, Sg.av, Sg.cells]) (by simp (disch := first|omega|(simp only[ln];omega)) [hx]) (by simp) ?_
    simp only [puts_some, updo]
    refine AOPS.all (by simp (disch := first|omega|(simp only[ln];omega)) [idf_Wd', Sp.av, Sp.cells, Sg.av, Sg.cells, hx]; rfl) ?_
    refine hK2 _ ?_
    refine AWP.ret ?_
    exact hK _ _ _ _ trivial ((Fin.mk (by simp [aRes, aResL, aRes1, idf_Wd', Sp.av, Sp.cells, Sg.av, Sg.cells]; rfl)).cast (by unfold Sp.good; rw [hx]; rfl))
  · refine AWP.region ?_
    refine AOPS.runk 2 (by simp (disch := first|omega|(simp only[ln];omega)) [List.take_succ_cons, List.take_zero, idf_Wd', Sp.av, Sp.cells, Sg.av, Sg.cells, hx]; rfl) ?_
    simp only [List.drop_succ_cons, List.drop_zero]
    refine AOPS.fcall (l1InM_fc p.x) rfl rfl rfl hb199 (by simp (disch := first|omega|(simp only[ln];omega)) [idf_Wd', hx, Sp.av, Sp.cells, Sg.av, Sg.cells]) (by simp (disch := first|omega|(simp only[ln];omega)) [hx]) (by simp) ?_
    simp only [puts_some, updo]
    refine AOPS.runk 3 (by simp (disch := first|omega|(simp only[ln];omega)) [List.take_succ_cons, List.take_zero, idf_Wd', Sp.av, Sp.cells, Sg.av, Sg.cells, hx]; rfl) ?_
    simp only [List.drop_succ_cons, List.drop_zero]
    refine AOPS.fcall (l1InM_fc p.y) rfl rfl rfl hb199 (by simp (disch := first|omega|(simp only[ln];omega)) [idf_Wd', hx, Sp.av, Sp.cells, Sg.av, Sg.cells]) (by simp (disch := first|omega|(simp only[ln];omega)) [hx]) (by simp) ?_
    simp only [puts_some, updo]
    refine AOPS.all (by simp (disch := first|omega|(simp only[ln];omega)) [idf_Wd', Sp.av, Sp.cells, Sg.av, Sg.cells, hx]; rfl) ?_
    refine hK2 _ ?_
    refine AWP.ret ?_
    exact hK _ _ _ _ trivial ((Fin.mk (by simp [aRes, aResL, aRes1, idf_Wd', Sp.av, Sp.cells, Sg.av, Sg.cells]; rfl)).cast (by unfold Sp.good; rw [hx]; rfl))

theorem l4Less_fc (p q : Sp) : FC Try.prog 183 [p.av, q.av] (.bool (lsS p q)) := by
  refine FC.body Try.func183 rfl (by simp [idfL, idf, Sp.av, Sp.cells, Sg.av, Sg.cells]) (by simp [idfL, idf, idfLL_iff, idf_Wd', Sp.av, Sp.cells, Sg.av, Sg.cells]) 24 rfl fun nx K hK => ?_
  refine AWP.seqk fun K1 hK1 => ?_
  refine AWP.region (AOPS.all (by simp (disch := first|omega|(simp only[ln];omega)) [idf_Wd', Sp.av, Sp.cells, Sg.av, Sg.cells]; rfl) ?_)
  refine hK1 _ ?_
  refine AWP.seqk fun K2 hK2 => ?_
  by_cases q1 : p.x < q.x
  · have hl : lsS p q = true := by simp [lsS, q1]
    have c1 : decide (p.x < q.x) = true := by simp [q1]
    refine AWP.region (AOPS.all (by simp (disch := first|omega|(simp only[ln];omega)) [idf_Wd', Sp.av, Sp.cells, Sg.av, Sg.cells, c1]; rfl) ?_)
    refine hK2 _ ?_
    refine AWP.ret ?_
    exact hK _ _ _ _ trivial ((Fin.mk (by simp [aRes, aResL, aRes1, idf_Wd', Sp.av, Sp.cells, Sg.av, Sg.cells]; rfl)).cast (by rw [hl]; try rfl))
  · have c1 : decide (p.x < q.x) = false := by simp; omega
    by_cases q2 : p.x = q.x
    · have c2 : (p.x == q.x) = true := by simp [q2]
      have hl : lsS p q = decide (p.y < q.y) := by simp [lsS, q2]
      refine AWP.region (AOPS.all (by simp (disch := first|omega|(simp only[ln];omega)) [idf_Wd', Sp.av, Sp.cells, Sg.av, Sg.cells, c1, c2]; rfl) ?_)
      refine hK2 _ ?_
      refine AWP.ret ?_
      exact hK _ _ _ _ trivial ((Fin.mk (by simp [aRes, aResL, aRes1, idf_Wd', Sp.av, Sp.cells, Sg.av, Sg.cells]; rfl)).cast (by rw [hl]))
    · have c2 : (p.x == q.x) = false := by simp [q2]
      have hl : lsS p q = false := by simp [lsS, q2]; omega
      refine AWP.region (AOPS.all (by simp (disch := first|omega|(simp only[ln];omega)) [idf_Wd', Sp.av, Sp.cells, Sg.av, Sg.cells, c1, c2]; rfl) ?_)
      refine hK2 _ ?_
      refine AWP.ret ?_
      exact hK _ _ _ _ trivial ((Fin.mk (by simp [aRes, aResL, aRes1, idf_Wd', Sp.av, Sp.cells, Sg.av, Sg.cells]; rfl)).cast (by rw [hl]; try rfl))

theorem segOkS_fc (s : Sg) : FC Try.prog 122 [s.av] (.bool s.good) := by
  refine FC.body Try.func122 rfl (by simp [idfL, idf, Sp.av, Sp.cells, Sg.av, Sg.cells]) (by simp [idfL, idf, idfLL_iff, idf_Wd', Sp.av, Sp.cells, Sg.av, Sg.cells]) 18 rfl fun nx K hK => ?_
  refine AWP.seqk fun K1 hK1 => ?_
  refine AWP.region (AOPS.all (by simp (disch := first|omega|(simp only[ln];omega)) [idf_Wd', Sp.av, Sp.cells, Sg.av, Sg.cells]; rfl) ?_)
  refine hK1 _ ?_
  refine AWP.seqk fun K2 hK2 => ?_
  cases ha : s.a.good
  · refine AWP.region ?_
    refine AOPS.runk 2 (by simp (disch := first|omega|(simp only[ln];omega)) [List.take_succ_cons, List.take_zero, idf_Wd', Sp.av, Sp.cells, Sg.av, Sg.cells, ha]; rfl) ?_
    simp only [List.drop_succ_cons, List.drop_zero]
    refine AOPS.fcall (spotOkS_fc s.a) rfl rfl rfl hb114 (by simp (disch := first|omega|(simp only[ln];omega)) [idf_Wd', ha, Sp.av, Sp.cells, Sg.av, Sg.cells]) (by simp (disch := first|omega|(simp only[ln];omega)) [ha]) (by simp) ?_
    simp only [puts_some, updo]
    refine AOPS.all (by simp (disch := first|omega|(simp only[ln];omega)) [idf_Wd', Sp.av, Sp.cells, Sg.av, Sg.cells, ha]; rfl) ?_
    refine hK2 _ ?_
    refine AWP.ret ?_
    exact hK _ _ _ _ trivial ((Fin.mk (by simp [aRes, aResL, aRes1, idf_Wd', Sp.av, Sp.cells, Sg.av, Sg.cells]; rfl)).cast (by unfold Sg.good; rw [ha]; rfl))
  · cases hb : s.b.good
    · refine AWP.region ?_
      refine AOPS.runk 2 (by simp (disch := first|omega|(simp only[ln];omega)) [List.take_succ_cons, List.take_zero, idf_Wd', Sp.av, Sp.cells, Sg.av, Sg.cells, ha, hb]; rfl) ?_
      simp only [List.drop_succ_cons, List.drop_zero]
      refine AOPS.fcall (spotOkS_fc s.a) rfl rfl rfl hb114 (by simp (disch := first|omega|(simp only[ln];omega)) [idf_Wd', ha, hb, Sp.av, Sp.cells, Sg.av, Sg.cells]) (by simp (disch := first|omega|(simp only[ln];omega)) [ha, hb]) (by simp) ?_
      simp only [puts_some, updo]
      refine AOPS.runk 3 (by simp (disch := first|omega|(simp only[ln];omega)) [List.take_succ_cons, List.take_zero, idf_Wd', Sp.av, Sp.cells, Sg.av, Sg.cells, ha, hb]; rfl) ?_
      simp only [List.drop_succ_cons, List.drop_zero]
      refine AOPS.fcall (spotOkS_fc s.b) rfl rfl rfl hb114 (by simp (disch := first|omega|(simp only[ln];omega)) [idf_Wd', ha, hb, Sp.av, Sp.cells, Sg.av, Sg.cells]) (by simp (disch := first|omega|(simp only[ln];omega)) [ha, hb]) (by simp) ?_
      simp only [puts_some, updo]
      refine AOPS.all (by simp (disch := first|omega|(simp only[ln];omega)) [idf_Wd', Sp.av, Sp.cells, Sg.av, Sg.cells, ha, hb]; rfl) ?_
      refine hK2 _ ?_
      refine AWP.ret ?_
      exact hK _ _ _ _ trivial ((Fin.mk (by simp [aRes, aResL, aRes1, idf_Wd', Sp.av, Sp.cells, Sg.av, Sg.cells]; rfl)).cast (by unfold Sg.good; rw [ha, hb]; rfl))
    · refine AWP.region ?_
      refine AOPS.runk 2 (by simp (disch := first|omega|(simp only[ln];omega)) [List.take_succ_cons, List.take_zero, idf_Wd', Sp.av, Sp.cells, Sg.av, Sg.cells, ha, hb, lsS_dec]; rfl) ?_
      simp only [List.drop_succ_cons, List.drop_zero]
      refine AOPS.fcall (spotOkS_fc s.a) rfl rfl rfl hb114 (by simp (disch := first|omega|(simp only[ln];omega)) [idf_Wd', ha, hb, lsS_dec, Sp.av, Sp.cells, Sg.av, Sg.cells]) (by simp (disch := first|omega|(simp only[ln];omega)) [ha, hb, lsS_dec]) (by simp) ?_
      simp only [puts_some, updo]
      refine AOPS.runk 3 (by simp (disch := first|omega|(simp only[ln];omega)) [List.take_succ_cons, List.take_zero, idf_Wd', Sp.av, Sp.cells, Sg.av, Sg.cells, ha, hb, lsS_dec]; rfl) ?_
      simp only [List.drop_succ_cons, List.drop_zero]
      refine AOPS.fcall (spotOkS_fc s.b) rfl rfl rfl hb114 (by simp (disch := first|omega|(simp only[ln];omega)) [idf_Wd', ha, hb, lsS_dec, Sp.av, Sp.cells, Sg.av, Sg.cells]) (by simp (disch := first|omega|(simp only[ln];omega)) [ha, hb, lsS_dec]) (by simp) ?_
      simp only [puts_some, updo]
      refine AOPS.runk 6 (by simp (disch := first|omega|(simp only[ln];omega)) [List.take_succ_cons, List.take_zero, idf_Wd', Sp.av, Sp.cells, Sg.av, Sg.cells, ha, hb, lsS_dec]; rfl) ?_
      simp only [List.drop_succ_cons, List.drop_zero]
      refine AOPS.fcall (l4Less_fc s.a s.b) rfl rfl rfl hb183 (by simp (disch := first|omega|(simp only[ln];omega)) [idf_Wd', ha, hb, lsS_dec, Sp.av, Sp.cells, Sg.av, Sg.cells]) (by simp (disch := first|omega|(simp only[ln];omega)) [ha, hb, lsS_dec]) (by simp) ?_
      simp only [puts_some, updo]
      refine AOPS.all (by simp (disch := first|omega|(simp only[ln];omega)) [idf_Wd', Sp.av, Sp.cells, Sg.av, Sg.cells, ha, hb, lsS_dec]; rfl) ?_
      refine hK2 _ ?_
      refine AWP.ret ?_
      exact hK _ _ _ _ trivial ((Fin.mk (by simp [aRes, aResL, aRes1, idf_Wd', Sp.av, Sp.cells, Sg.av, Sg.cells]; rfl)).cast (by unfold Sg.good; rw [ha, hb]; rfl))

end Go.Proofs.Ytmaebeknmiomnaa

/- Walks: drawn segments. -/
namespace Go.Proofs.Ytmaebeknmiomnaa
open Go Go.RowKit
set_option linter.unusedSimpArgs false
set_option linter.unusedVariables false
set_option maxRecDepth 100000
attribute [local simp] List.getElem?_cons_zero List.getElem?_cons_succ List.getElem?_toArray runOps stepOp.eq_def agd.eq_def dstOk.eq_def opVal.eq_def opNew.eq_def opSto.eq_def ev.eq_def cv.eq_def puts_some puts_none upd_ap lst.eq_def aBin.eq_def aUn.eq_def aBi_str aBi_isl aBi_osl aBi_nsl aBi_max aBi_min aBi_max3 aConv.eq_def aLd.eq_def aLoad.eq_def aField.eq_def aFld.eq_def aIdx_isl aIdx_osl aSlc_isl aSlc_osl aSlc_str aSlc_nsl bnd.eq_def evs_nil evs_cons aBuild.eq_def aFill splice.eq_def cells_agg cells_int cells_bool cells_str cells_nil cells_nsl cells_isl cells_osl cells_ptr cells_ip cells_fn cells_Wd one_int one_bool one_str one_nil one_nsl one_isl one_osl one_ptr one_ip one_fn one_Wd aSets hupd_eq hupd_ne wrap_i64s wrap_u64s wrap_u32s wrap_u8s wd_getD wd_set wd_len wd_replicate wd_one wd_fold fz_osl hupd_same aSix.eq_def aEqS.eq_def aEqB_bool aEqB_nsl aEqB_nil
attribute [local simp] szT2 byT2 agT2 unT2 zoT2 szT3 byT3 agT3 unT3 zoT3 szT67 byT67 agT67 flT67 fdT67_0 fdT67_1 zoT67 szT69 byT69 agT69 flT69 fdT69_0 fdT69_1 zoT69 szT228 byT228 agT228 elT228 unT228 zoT228

def tabO : List Int := [-1000001, 1000001, -9223372036854775808, 9223372036854775807]
theorem tabO_b (k : Nat) : I64 (gt tabO k) := by
  have h : ∀ x ∈ tabO, -9223372036854775808 ≤ x ∧ x ≤ 9223372036854775807 := by decide
  unfold gt I64
  cases hk : tabO[k]? with
  | none => simp
  | some x => simpa using h x (List.mem_of_getElem? hk)
def sgZ : Sg := ⟨⟨0, 0⟩, ⟨0, 0⟩⟩
def segS (a b : Sp) : Sg × Bool := if (segO a b).good = true then (segO a b, true) else (sgZ, false)
theorem segO_ok {a b : Sp} (ha : a.ok) (hb : b.ok) : (segO a b).ok := by unfold segO; split; exact ⟨hb, ha⟩; exact ⟨ha, hb⟩
theorem sgZ_ok : sgZ.ok := by unfold Sg.ok Sp.ok I64 sgZ; simp
theorem segS_ok {a b : Sp} (ha : a.ok) (hb : b.ok) : (segS a b).1.ok := by unfold segS; split; exact segO_ok ha hb; exact sgZ_ok

set_option maxHeartbeats 2000000 in
theorem segOfS_fc (a b : Sp) : FC Try.prog 155 [a.av, b.av] (.tup [.agg [.int .i64 ((segS a b).1).a.x, .int .i64 ((segS a b).1).a.y, .int .i64 ((segS a b).1).b.x, .int .i64 ((segS a b).1).b.y], .bool (segS a b).2]) := by
  refine FC.body Try.func155 rfl (by simp [idfL, idf, Sp.av, Sp.cells, Sg.av, Sg.cells]) (by simp [idfL, idf, idfLL_iff, idf_Wd', Sp.av, Sp.cells, Sg.av, Sg.cells]) 20 rfl fun nx K hK => ?_
  refine AWP.seqk fun K1 hK1 => ?_
  refine AWP.region (AOPS.all (by simp (disch := first|omega|(simp only[ln];omega)) [idf_Wd', Sp.av, Sp.cells, Sg.av, Sg.cells]; rfl) ?_)
  refine hK1 _ ?_
  refine AWP.seqk fun K2 hK2 => ?_
  refine AWP.seqk fun K3 hK3 => ?_
  cases hl : lsS b a
  · have es : segO a b = ⟨a, b⟩ := by unfold segO; rw [hl]; rfl
    refine AWP.region ?_
    refine AOPS.runk 2 (by simp (disch := first|omega|(simp only[ln];omega)) [List.take_succ_cons, List.take_zero, idf_Wd', Sp.av, Sp.cells, Sg.av, Sg.cells, hl]; rfl) ?_
    simp only [List.drop_succ_cons, List.drop_zero]
    refine AOPS.fcall (l4Less_fc b a) rfl rfl rfl hb183 (by simp (disch := first|omega|(simp only[ln];omega)) [idf_Wd', hl, Sp.av, Sp.cells, Sg.av, Sg.cells]) (by simp (disch := first|omega|(simp only[ln];omega)) [hl]) (by simp) ?_
    simp only [puts_some, updo]
    refine AOPS.nil ?_
    refine hK3 _ ?_
    refine cond_ok _ (by simp (disch := first|omega|(simp only[ln];omega)); rfl) (fun h9 => ?_) (fun h9 => ?_)
    · simp [hl] at h9
    · try simp only [decide_eq_true_eq, decide_eq_false_iff_not] at h9
      refine AWP.skip ?_
      refine hK2 _ ?_
      refine AWP.seqk fun K4 hK4 => ?_
      refine AWP.region (AOPS.all (by simp (disch := first|omega|(simp only[ln];omega)) [idf_Wd', Sp.av, Sp.cells, Sg.av, Sg.cells]; rfl) ?_)
      refine hK4 _ ?_
      refine AWP.seqk fun K5 hK5 => ?_
      refine AWP.seqk fun K6 hK6 => ?_
      refine AWP.region ?_
      refine AOPS.runk 1 (by simp (disch := first|omega|(simp only[ln];omega)) [List.take_succ_cons, List.take_zero, idf_Wd', Sp.av, Sp.cells, Sg.av, Sg.cells]; rfl) ?_
      simp only [List.drop_succ_cons, List.drop_zero]
      refine AOPS.fcall (segOkS_fc ⟨a, b⟩) rfl rfl rfl hb122 (by simp (disch := first|omega|(simp only[ln];omega)) [idf_Wd', Sp.av, Sp.cells, Sg.av, Sg.cells]) (by simp (disch := first|omega|(simp only[ln];omega))) (by simp) ?_
      simp only [puts_some, updo]
      refine AOPS.all (by simp (disch := first|omega|(simp only[ln];omega)) [idf_Wd', Sp.av, Sp.cells, Sg.av, Sg.cells]; rfl) ?_
      refine hK6 _ ?_
      refine cond_ok (!(Sg.good ⟨a, b⟩)) (by simp (disch := first|omega|(simp only[ln];omega))) (fun h17 => ?_) (fun h17 => ?_)
      · try simp only [decide_eq_true_eq, decide_eq_false_iff_not] at h17
        have hg : (segO a b).good = false := by rw [es]; simpa using h17
        refine AWP.seqk fun K7 hK7 => ?_
        refine AWP.region (AOPS.all (by simp (disch := first|omega|(simp only[ln];omega)) [idf_Wd', Sp.av, Sp.cells, Sg.av, Sg.cells]; rfl) ?_)
        refine hK7 _ ?_
        refine AWP.ret ?_
        exact hK _ _ _ _ trivial ((Fin.mk (by simp [aRes, aResL, aRes1, idf_Wd', Sp.av, Sp.cells, Sg.av, Sg.cells]; try rfl)).cast (by unfold segS; rw [hg]; rfl))
      · try simp only [decide_eq_true_eq, decide_eq_false_iff_not] at h17
        have hg : (segO a b).good = true := by rw [es]; simpa using h17
        refine AWP.skip ?_
        refine hK5 _ ?_
        refine AWP.seqk fun K8 hK8 => ?_
        refine AWP.region (AOPS.all (by simp (disch := first|omega|(simp only[ln];omega)) [idf_Wd', Sp.av, Sp.cells, Sg.av, Sg.cells]; rfl) ?_)
        refine hK8 _ ?_
        refine AWP.ret ?_
        exact hK _ _ _ _ trivial ((Fin.mk (by simp [aRes, aResL, aRes1, idf_Wd', Sp.av, Sp.cells, Sg.av, Sg.cells]; try rfl)).cast (by unfold segS; rw [if_pos hg, es]; try rfl))
  · have es : segO a b = ⟨b, a⟩ := by unfold segO; rw [hl]; rfl
    refine AWP.region ?_
    refine AOPS.runk 2 (by simp (disch := first|omega|(simp only[ln];omega)) [List.take_succ_cons, List.take_zero, idf_Wd', Sp.av, Sp.cells, Sg.av, Sg.cells, hl]; rfl) ?_
    simp only [List.drop_succ_cons, List.drop_zero]
    refine AOPS.fcall (l4Less_fc b a) rfl rfl rfl hb183 (by simp (disch := first|omega|(simp only[ln];omega)) [idf_Wd', hl, Sp.av, Sp.cells, Sg.av, Sg.cells]) (by simp (disch := first|omega|(simp only[ln];omega)) [hl]) (by simp) ?_
    simp only [puts_some, updo]
    refine AOPS.nil ?_
    refine hK3 _ ?_
    refine cond_ok _ (by simp (disch := first|omega|(simp only[ln];omega)); rfl) (fun h9 => ?_) (fun h9 => ?_)
    · try simp only [decide_eq_true_eq, decide_eq_false_iff_not] at h9
      refine AWP.region (AOPS.all (by simp (disch := first|omega|(simp only[ln];omega)) [idf_Wd', Sp.av, Sp.cells, Sg.av, Sg.cells]; rfl) ?_)
      refine hK2 _ ?_
      refine AWP.seqk fun K9 hK9 => ?_
      refine AWP.region (AOPS.all (by simp (disch := first|omega|(simp only[ln];omega)) [idf_Wd', Sp.av, Sp.cells, Sg.av, Sg.cells]; rfl) ?_)
      refine hK9 _ ?_
      refine AWP.seqk fun K10 hK10 => ?_
      refine AWP.seqk fun K11 hK11 => ?_
      refine AWP.region ?_
      refine AOPS.runk 1 (by simp (disch := first|omega|(simp only[ln];omega)) [List.take_succ_cons, List.take_zero, idf_Wd', Sp.av, Sp.cells, Sg.av, Sg.cells]; rfl) ?_
      simp only [List.drop_succ_cons, List.drop_zero]
      refine AOPS.fcall (segOkS_fc ⟨b, a⟩) rfl rfl rfl hb122 (by simp (disch := first|omega|(simp only[ln];omega)) [idf_Wd', Sp.av, Sp.cells, Sg.av, Sg.cells]) (by simp (disch := first|omega|(simp only[ln];omega))) (by simp) ?_
      simp only [puts_some, updo]
      refine AOPS.all (by simp (disch := first|omega|(simp only[ln];omega)) [idf_Wd', Sp.av, Sp.cells, Sg.av, Sg.cells]; rfl) ?_
      refine hK11 _ ?_
      refine cond_ok (!(Sg.good ⟨b, a⟩)) (by simp (disch := first|omega|(simp only[ln];omega))) (fun h17 => ?_) (fun h17 => ?_)
      · try simp only [decide_eq_true_eq, decide_eq_false_iff_not] at h17
        have hg : (segO a b).good = false := by rw [es]; simpa using h17
        refine AWP.seqk fun K12 hK12 => ?_
        refine AWP.region (AOPS.all (by simp (disch := first|omega|(simp only[ln];omega)) [idf_Wd', Sp.av, Sp.cells, Sg.av, Sg.cells]; rfl) ?_)
        refine hK12 _ ?_
        refine AWP.ret ?_
        exact hK _ _ _ _ trivial ((Fin.mk (by simp [aRes, aResL, aRes1, idf_Wd', Sp.av, Sp.cells, Sg.av, Sg.cells]; try rfl)).cast (by unfold segS; rw [hg]; rfl))
      · try simp only [decide_eq_true_eq, decide_eq_false_iff_not] at h17
        have hg : (segO a b).good = true := by rw [es]; simpa using h17
        refine AWP.skip ?_
        refine hK10 _ ?_
        refine AWP.seqk fun K13 hK13 => ?_
        refine AWP.region (AOPS.all (by simp (disch := first|omega|(simp only[ln];omega)) [idf_Wd', Sp.av, Sp.cells, Sg.av, Sg.cells]; rfl) ?_)
        refine hK13 _ ?_
        refine AWP.ret ?_
        exact hK _ _ _ _ trivial ((Fin.mk (by simp [aRes, aResL, aRes1, idf_Wd', Sp.av, Sp.cells, Sg.av, Sg.cells]; try rfl)).cast (by unfold segS; rw [if_pos hg, es]; try rfl))
    · simp [hl] at h9

set_option maxHeartbeats 2000000 in
theorem off_ac (l : List Int) (p id : Nat) (H : Heap) (nx : Nat) (dl : Dig 256 l) (hl : l.length ≤ 1048576) (hp : p ≤ l.length) (hH : H id = some (2, [[Wd .u8 l, .int .i64 (p : Int)]])) (hd : ∀ i q, H i = some q → i < nx) : ACall Try.prog 129 [.ptr id 0 0, .int .i64 (-1000000), .int .i64 1000000] H nx (fun r H' nx' => (∃ k : Int, r = .int .i64 k ∧ I64 k) ∧ (∃ p' : Nat, p' ≤ l.length ∧ H' = hupd H id (some (2, [[Wd .u8 l, .int .i64 (p' : Int)]]))) ∧ nx ≤ nx') := by
  have hid := hd id _ hH
  have tOl : tabO.length = 4 := rfl
  refine ACall.body Try.func129 rfl 22 rfl fun K hK => ?_
  refine AWP.seqk fun K1 hK1 => ?_
  refine AWP.region (AOPS.all (by simp (disch := first|omega|(simp only[ln];omega)) [idf_Wd']; rfl) ?_)
  refine hK1 _ ?_
  refine AWP.seqk fun K2 hK2 => ?_
  refine AWP.seqk fun K3 hK3 => ?_
  refine AWP.region ?_
  refine AOPS.runk 1 (by simp (disch := first|omega|(simp only[ln];omega)) [List.take_succ_cons, List.take_zero, idf_Wd', hH]; rfl) ?_
  simp only [List.drop_succ_cons, List.drop_zero]
  refine AOPS.old fun hold1 => ?_
  refine AOPS.acall (once_ac 24 (by omega) (by omega) l p id _ _ dl hl hp (by simp (disch := omega) [hH]) hold1) rfl rfl rfl hb78 (by simp (disch := first|omega|(simp only[ln];omega)) [idf_Wd', hH]) (by simp (disch := first|omega|(simp only[ln];omega)) [hH]) (by simp) ?_
  rintro _ _ nx2 ⟨⟨b, rfl⟩, ⟨p2, hp2, rfl⟩, hnx2⟩
  try simp only [] at hnx2
  clear hold1
  simp only [puts_some, updo]
  refine AOPS.nil ?_
  refine hK3 _ ?_
  refine cond_ok (b) (by simp (disch := first|omega|(simp only[ln];omega))) (fun h8 => ?_) (fun h8 => ?_)
  · try simp only [decide_eq_true_eq, decide_eq_false_iff_not] at h8
    refine AWP.seqk fun K4 hK4 => ?_
    refine AWP.region ?_
    refine AOPS.runk 6 (by simp (disch := first|omega|(simp only[ln];omega)) [List.take_succ_cons, List.take_zero, idx_WdD (P := Try.prog) elT228 szT2, if_pos, idf_Wd', tOl]; rfl) ?_
    simp only [List.drop_succ_cons, List.drop_zero]
    refine AOPS.frz1 13 nx2 1 (wd .i64 tabO) (Wd .i64 tabO) (by simp; rfl) (by simp; first | exact fz_wd rfl | exact isl_take_wd (by decide)) ?_
    refine AOPS.old fun hold6 => ?_
    refine AOPS.acall (below_ac 4 (by omega) (by omega) l p2 id _ _ dl hl hp2 (by simp (disch := omega) [hH]) hold6) rfl rfl rfl hb159 (by simp (disch := first|omega|(simp only[ln];omega)) [idf_Wd', tOl]) (by simp (disch := first|omega|(simp only[ln];omega)) [tOl]) (by simp) ?_
    rintro _ _ nx3 ⟨⟨k, rfl, k0, k1⟩, ⟨p3, hp3, rfl⟩, hnx3⟩
    try simp only [] at hnx3
    clear hold6
    have hk : k.toNat < 4 := by omega
    simp only [puts_some, updo]
    refine AOPS.all (by simp (disch := first|omega|(simp only[ln];omega)) [idx_WdD (P := Try.prog) elT228 szT2, if_pos, idf_Wd', tOl]; rfl) ?_
    refine hK4 _ ?_
    refine AWP.ret ?_
    exact hK _ _ _ _ _ trivial ((Fin.mk (r := .int .i64 (gt tabO k.toNat)) (by simp (disch := omega) [aRes, aResL, aRes1, idf_Wd'])).restr (fun i => decide (i < nx))) (⟨⟨gt tabO k.toNat, rfl, tabO_b _⟩, ⟨p3, hp3, by simp (disch := first | omega | (simp; done) | (simp; omega)) [hrestr_in, hrestr_out, hrestr_all hd, hupd_same]⟩, by first | omega | (simp at *; omega)⟩)
  · try simp only [decide_eq_true_eq, decide_eq_false_iff_not] at h8
    refine AWP.skip ?_
    refine hK2 _ ?_
    refine AWP.seqk fun K5 hK5 => ?_
    refine AWP.region ?_
    refine AOPS.runk 3 (by simp (disch := first|omega|(simp only[ln];omega)) [List.take_succ_cons, List.take_zero, idf_Wd']; rfl) ?_
    simp only [List.drop_succ_cons, List.drop_zero]
    refine AOPS.old fun hold3 => ?_
    refine AOPS.acall (near_ac (-1000000) (1000000) (by omega) (by omega) (by omega) l p2 id _ _ dl hl hp2 (by simp (disch := omega) [hH]) hold3) rfl rfl rfl hb164 (by simp (disch := first|omega|(simp only[ln];omega)) [idf_Wd']) (by simp (disch := first|omega|(simp only[ln];omega))) (by simp) ?_
    rintro _ _ nx3 ⟨⟨k, rfl, k0, k1⟩, ⟨p3, hp3, rfl⟩, hnx3⟩
    try simp only [] at hnx3
    clear hold3
    simp only [puts_some, updo]
    refine AOPS.all (by simp (disch := first|omega|(simp only[ln];omega)) [idf_Wd']; rfl) ?_
    refine hK5 _ ?_
    refine AWP.ret ?_
    exact hK _ _ _ _ _ trivial ((Fin.mk (r := .int .i64 k) (by simp (disch := omega) [aRes, aResL, aRes1, idf_Wd'])).restr (fun i => decide (i < nx))) (⟨⟨k, rfl, by unfold I64; omega⟩, ⟨p3, hp3, by simp (disch := first | omega | (simp; done) | (simp; omega)) [hrestr_in, hrestr_out, hrestr_all hd, hupd_same]⟩, by first | omega | (simp at *; omega)⟩)

set_option maxHeartbeats 8000000 in
theorem seg_ac (l : List Int) (p id : Nat) (H : Heap) (nx : Nat) (dl : Dig 256 l) (hl : l.length ≤ 1048576) (hp : p ≤ l.length) (hH : H id = some (2, [[Wd .u8 l, .int .i64 (p : Int)]])) (hd : ∀ i q, H i = some q → i < nx) : ACall Try.prog 128 [.ptr id 0 0] H nx (fun r H' nx' => (∃ s : Sg, r = .agg [.int .i64 (s).a.x, .int .i64 (s).a.y, .int .i64 (s).b.x, .int .i64 (s).b.y] ∧ s.ok) ∧ (∃ p' : Nat, p' ≤ l.length ∧ H' = hupd H id (some (2, [[Wd .u8 l, .int .i64 (p' : Int)]]))) ∧ nx ≤ nx') := by
  have hid := hd id _ hH
  refine ACall.body Try.func128 rfl 66 rfl fun K hK => ?_
  refine AWP.seqk fun K1 hK1 => ?_
  refine AWP.region (AOPS.all (by simp (disch := first|omega|(simp only[ln];omega)) [idf_Wd', Sp.av, Sp.cells, Sg.av, Sg.cells]; rfl) ?_)
  refine hK1 _ ?_
  refine AWP.seqk fun K2 hK2 => ?_
  refine AWP.seqk fun K3 hK3 => ?_
  refine AWP.region ?_
  refine AOPS.runk 1 (by simp (disch := first|omega|(simp only[ln];omega)) [List.take_succ_cons, List.take_zero, idf_Wd', Sp.av, Sp.cells, Sg.av, Sg.cells, hH]; rfl) ?_
  simp only [List.drop_succ_cons, List.drop_zero]
  refine AOPS.old fun hold1 => ?_
  refine AOPS.acall (below_ac 20 (by omega) (by omega) l p id _ _ dl hl hp (by simp (disch := omega) [hH]) hold1) rfl rfl rfl hb159 (by simp (disch := first|omega|(simp only[ln];omega)) [idf_Wd', hH, Sp.av, Sp.cells, Sg.av, Sg.cells]) (by simp (disch := first|omega|(simp only[ln];omega)) [hH]) (by simp) ?_
  rintro _ _ nx2 ⟨⟨k, rfl, k0, k1⟩, ⟨p2, hp2, rfl⟩, hnx2⟩
  try simp only [] at hnx2
  clear hold1
  simp only [puts_some, updo]
  refine AOPS.nil ?_
  refine hK3 _ ?_
  refine AWP.block ?_
  refine AWP.seqk fun K4 hK4 => ?_
  refine AWP.region (AOPS.all (by simp (disch := first|omega|(simp only[ln];omega)) [idf_Wd', Sp.av, Sp.cells, Sg.av, Sg.cells]; rfl) ?_)
  refine hK4 _ ?_
  refine cond_ok (k == 0) (by simp (disch := first|omega|(simp only[ln];omega))) (fun h11 => ?_) (fun h11 => ?_)
  · try simp only [decide_eq_true_eq, decide_eq_false_iff_not] at h11
    refine AWP.seqk fun K5 hK5 => ?_
    refine AWP.region ?_
    refine AOPS.runk 1 (by simp (disch := first|omega|(simp only[ln];omega)) [List.take_succ_cons, List.take_zero, idf_Wd', Sp.av, Sp.cells, Sg.av, Sg.cells]; rfl) ?_
    simp only [List.drop_succ_cons, List.drop_zero]
    refine AOPS.old fun hold1 => ?_
    refine AOPS.acall (off_ac l p2 id _ _ dl hl hp2 (by simp (disch := omega) [hH]) hold1) rfl rfl rfl hb129 (by simp (disch := first|omega|(simp only[ln];omega)) [idf_Wd', Sp.av, Sp.cells, Sg.av, Sg.cells]) (by simp (disch := first|omega|(simp only[ln];omega))) (by simp) ?_
    rintro _ _ nx3 ⟨⟨ka, rfl, kai⟩, ⟨p3, hp3, rfl⟩, hnx3⟩
    try simp only [] at hnx3
    clear hold1
    simp only [puts_some, updo]
    refine AOPS.runk 1 (by simp (disch := first|omega|(simp only[ln];omega)) [List.take_succ_cons, List.take_zero, idf_Wd', Sp.av, Sp.cells, Sg.av, Sg.cells]; rfl) ?_
    simp only [List.drop_succ_cons, List.drop_zero]
    refine AOPS.old fun hold3 => ?_
    refine AOPS.acall (off_ac l p3 id _ _ dl hl hp3 (by simp (disch := omega) [hH]) hold3) rfl rfl rfl hb129 (by simp (disch := first|omega|(simp only[ln];omega)) [idf_Wd', Sp.av, Sp.cells, Sg.av, Sg.cells]) (by simp (disch := first|omega|(simp only[ln];omega))) (by simp) ?_
    rintro _ _ nx4 ⟨⟨kb, rfl, kbi⟩, ⟨p4, hp4, rfl⟩, hnx4⟩
    try simp only [] at hnx4
    clear hold3
    simp only [puts_some, updo]
    refine AOPS.runk 2 (by simp (disch := first|omega|(simp only[ln];omega)) [List.take_succ_cons, List.take_zero, idf_Wd', Sp.av, Sp.cells, Sg.av, Sg.cells]; rfl) ?_
    simp only [List.drop_succ_cons, List.drop_zero]
    refine AOPS.old fun hold6 => ?_
    refine AOPS.acall (off_ac l p4 id _ _ dl hl hp4 (by simp (disch := omega) [hH]) hold6) rfl rfl rfl hb129 (by simp (disch := first|omega|(simp only[ln];omega)) [idf_Wd', Sp.av, Sp.cells, Sg.av, Sg.cells]) (by simp (disch := first|omega|(simp only[ln];omega))) (by simp) ?_
    rintro _ _ nx5 ⟨⟨kc, rfl, kci⟩, ⟨p5, hp5, rfl⟩, hnx5⟩
    try simp only [] at hnx5
    clear hold6
    simp only [puts_some, updo]
    refine AOPS.runk 1 (by simp (disch := first|omega|(simp only[ln];omega)) [List.take_succ_cons, List.take_zero, idf_Wd', Sp.av, Sp.cells, Sg.av, Sg.cells]; rfl) ?_
    simp only [List.drop_succ_cons, List.drop_zero]
    refine AOPS.old fun hold8 => ?_
    refine AOPS.acall (off_ac l p5 id _ _ dl hl hp5 (by simp (disch := omega) [hH]) hold8) rfl rfl rfl hb129 (by simp (disch := first|omega|(simp only[ln];omega)) [idf_Wd', Sp.av, Sp.cells, Sg.av, Sg.cells]) (by simp (disch := first|omega|(simp only[ln];omega))) (by simp) ?_
    rintro _ _ nx6 ⟨⟨kd, rfl, kdi⟩, ⟨p6, hp6, rfl⟩, hnx6⟩
    try simp only [] at hnx6
    clear hold8
    simp only [puts_some, updo]
    refine AOPS.all (by simp (disch := first|omega|(simp only[ln];omega)) [idf_Wd', Sp.av, Sp.cells, Sg.av, Sg.cells]; rfl) ?_
    refine hK5 _ ?_
    refine AWP.ret ?_
    exact hK _ _ _ _ _ trivial ((Fin.mk (r := .agg [.int .i64 ((⟨⟨ka, kb⟩, ⟨kc, kd⟩⟩ : Sg)).a.x, .int .i64 ((⟨⟨ka, kb⟩, ⟨kc, kd⟩⟩ : Sg)).a.y, .int .i64 ((⟨⟨ka, kb⟩, ⟨kc, kd⟩⟩ : Sg)).b.x, .int .i64 ((⟨⟨ka, kb⟩, ⟨kc, kd⟩⟩ : Sg)).b.y]) (by simp (disch := omega) [aRes, aResL, aRes1, idf_Wd', Sp.av, Sp.cells, Sg.av, Sg.cells])).restr (fun i => decide (i < nx))) (⟨⟨(⟨⟨ka, kb⟩, ⟨kc, kd⟩⟩ : Sg), rfl, ⟨⟨kai, kbi⟩, ⟨kci, kdi⟩⟩⟩, ⟨p6, hp6, by simp (disch := first | omega | (simp; done) | (simp; omega)) [hrestr_in, hrestr_out, hrestr_all hd, hupd_same]⟩, by first | omega | (simp at *; omega)⟩)
  · try simp only [decide_eq_true_eq, decide_eq_false_iff_not] at h11
    refine AWP.seqk fun K6 hK6 => ?_
    refine AWP.region (AOPS.all (by simp (disch := first|omega|(simp only[ln];omega)) [idf_Wd', Sp.av, Sp.cells, Sg.av, Sg.cells]; rfl) ?_)
    refine hK6 _ ?_
    refine cond_ok (k == 1) (by simp (disch := first|omega|(simp only[ln];omega))) (fun h24 => ?_) (fun h24 => ?_)
    · try simp only [decide_eq_true_eq, decide_eq_false_iff_not] at h24
      refine AWP.seqk fun K7 hK7 => ?_
      refine AWP.region ?_
      refine AOPS.runk 1 (by simp (disch := first|omega|(simp only[ln];omega)) [List.take_succ_cons, List.take_zero, idf_Wd', Sp.av, Sp.cells, Sg.av, Sg.cells]; rfl) ?_
      simp only [List.drop_succ_cons, List.drop_zero]
      refine AOPS.old fun hold1 => ?_
      refine AOPS.acall (near_ac (-1000000) (1000000) (by omega) (by omega) (by omega) l p2 id _ _ dl hl hp2 (by simp (disch := omega) [hH]) hold1) rfl rfl rfl hb164 (by simp (disch := first|omega|(simp only[ln];omega)) [idf_Wd', Sp.av, Sp.cells, Sg.av, Sg.cells]) (by simp (disch := first|omega|(simp only[ln];omega))) (by simp) ?_
      rintro _ _ nx3 ⟨⟨ka, rfl, ka0, ka1⟩, ⟨p3, hp3, rfl⟩, hnx3⟩
      try simp only [] at hnx3
      clear hold1
      simp only [puts_some, updo]
      refine AOPS.runk 1 (by simp (disch := first|omega|(simp only[ln];omega)) [List.take_succ_cons, List.take_zero, idf_Wd', Sp.av, Sp.cells, Sg.av, Sg.cells]; rfl) ?_
      simp only [List.drop_succ_cons, List.drop_zero]
      refine AOPS.old fun hold3 => ?_
      refine AOPS.acall (near_ac (-1000000) (1000000) (by omega) (by omega) (by omega) l p3 id _ _ dl hl hp3 (by simp (disch := omega) [hH]) hold3) rfl rfl rfl hb164 (by simp (disch := first|omega|(simp only[ln];omega)) [idf_Wd', Sp.av, Sp.cells, Sg.av, Sg.cells]) (by simp (disch := first|omega|(simp only[ln];omega))) (by simp) ?_
      rintro _ _ nx4 ⟨⟨kb, rfl, kb0, kb1⟩, ⟨p4, hp4, rfl⟩, hnx4⟩
      try simp only [] at hnx4
      clear hold3
      simp only [puts_some, updo]
      refine AOPS.runk 2 (by simp (disch := first|omega|(simp only[ln];omega)) [List.take_succ_cons, List.take_zero, idf_Wd', Sp.av, Sp.cells, Sg.av, Sg.cells]; rfl) ?_
      simp only [List.drop_succ_cons, List.drop_zero]
      refine AOPS.old fun hold6 => ?_
      refine AOPS.acall (near_ac (-1000000) (1000000) (by omega) (by omega) (by omega) l p4 id _ _ dl hl hp4 (by simp (disch := omega) [hH]) hold6) rfl rfl rfl hb164 (by simp (disch := first|omega|(simp only[ln];omega)) [idf_Wd', Sp.av, Sp.cells, Sg.av, Sg.cells]) (by simp (disch := first|omega|(simp only[ln];omega))) (by simp) ?_
      rintro _ _ nx5 ⟨⟨kc, rfl, kc0, kc1⟩, ⟨p5, hp5, rfl⟩, hnx5⟩
      try simp only [] at hnx5
      clear hold6
      simp only [puts_some, updo]
      refine AOPS.runk 1 (by simp (disch := first|omega|(simp only[ln];omega)) [List.take_succ_cons, List.take_zero, idf_Wd', Sp.av, Sp.cells, Sg.av, Sg.cells]; rfl) ?_
      simp only [List.drop_succ_cons, List.drop_zero]
      refine AOPS.old fun hold8 => ?_
      refine AOPS.acall (near_ac (-1000000) (1000000) (by omega) (by omega) (by omega) l p5 id _ _ dl hl hp5 (by simp (disch := omega) [hH]) hold8) rfl rfl rfl hb164 (by simp (disch := first|omega|(simp only[ln];omega)) [idf_Wd', Sp.av, Sp.cells, Sg.av, Sg.cells]) (by simp (disch := first|omega|(simp only[ln];omega))) (by simp) ?_
      rintro _ _ nx6 ⟨⟨kd, rfl, kd0, kd1⟩, ⟨p6, hp6, rfl⟩, hnx6⟩
      try simp only [] at hnx6
      clear hold8
      simp only [puts_some, updo]
      refine AOPS.runk 1 (by simp (disch := first|omega|(simp only[ln];omega)) [List.take_succ_cons, List.take_zero, idf_Wd', Sp.av, Sp.cells, Sg.av, Sg.cells]; rfl) ?_
      simp only [List.drop_succ_cons, List.drop_zero]
      refine AOPS.fcall (segOfS_fc ⟨ka, kb⟩ ⟨kc, kd⟩) rfl rfl rfl hb155 (by simp (disch := first|omega|(simp only[ln];omega)) [idf_Wd', Sp.av, Sp.cells, Sg.av, Sg.cells]) (by simp (disch := first|omega|(simp only[ln];omega))) (by simp) ?_
      simp only [puts_some, updo]
      refine AOPS.all (by simp (disch := first|omega|(simp only[ln];omega)) [idf_Wd', Sp.av, Sp.cells, Sg.av, Sg.cells]; rfl) ?_
      refine hK7 _ ?_
      refine AWP.seqk fun K8 hK8 => ?_
      refine AWP.region (AOPS.all (by simp (disch := first|omega|(simp only[ln];omega)) [idf_Wd', Sp.av, Sp.cells, Sg.av, Sg.cells]; rfl) ?_)
      refine hK8 _ ?_
      refine AWP.ret ?_
      exact hK _ _ _ _ _ trivial ((Fin.mk (r := .agg [.int .i64 ((segS ⟨ka, kb⟩ ⟨kc, kd⟩).1).a.x, .int .i64 ((segS ⟨ka, kb⟩ ⟨kc, kd⟩).1).a.y, .int .i64 ((segS ⟨ka, kb⟩ ⟨kc, kd⟩).1).b.x, .int .i64 ((segS ⟨ka, kb⟩ ⟨kc, kd⟩).1).b.y]) (by simp (disch := omega) [aRes, aResL, aRes1, idf_Wd', Sp.av, Sp.cells, Sg.av, Sg.cells])).restr (fun i => decide (i < nx))) (⟨⟨(segS ⟨ka, kb⟩ ⟨kc, kd⟩).1, rfl, segS_ok ⟨by unfold I64; first | omega | (simp only []; omega), by unfold I64; first | omega | (simp only []; omega)⟩ ⟨by unfold I64; first | omega | (simp only []; omega), by unfold I64; first | omega | (simp only []; omega)⟩⟩, ⟨p6, hp6, by simp (disch := first | omega | (simp; done) | (simp; omega)) [hrestr_in, hrestr_out, hrestr_all hd, hupd_same]⟩, by first | omega | (simp at *; omega)⟩)
    · try simp only [decide_eq_true_eq, decide_eq_false_iff_not] at h24
      refine AWP.seqk fun K9 hK9 => ?_
      refine AWP.region (AOPS.all (by simp (disch := first|omega|(simp only[ln];omega)) [idf_Wd', Sp.av, Sp.cells, Sg.av, Sg.cells]; rfl) ?_)
      refine hK9 _ ?_
      refine cond_ok (k == 2) (by simp (disch := first|omega|(simp only[ln];omega))) (fun h41 => ?_) (fun h41 => ?_)
      · try simp only [decide_eq_true_eq, decide_eq_false_iff_not] at h41
        refine AWP.seqk fun K10 hK10 => ?_
        refine AWP.region ?_
        refine AOPS.runk 1 (by simp (disch := first|omega|(simp only[ln];omega)) [List.take_succ_cons, List.take_zero, idf_Wd', Sp.av, Sp.cells, Sg.av, Sg.cells]; rfl) ?_
        simp only [List.drop_succ_cons, List.drop_zero]
        refine AOPS.old fun hold1 => ?_
        refine AOPS.acall (spot_ac l p2 id _ _ dl hl hp2 (by simp (disch := omega) [hH]) hold1) rfl rfl rfl hb130 (by simp (disch := first|omega|(simp only[ln];omega)) [idf_Wd', Sp.av, Sp.cells, Sg.av, Sg.cells]) (by simp (disch := first|omega|(simp only[ln];omega))) (by simp) ?_
        rintro _ _ nx3 ⟨⟨ax, ay, rfl, ax0, ax1, ay0, ay1⟩, ⟨p3, hp3, rfl⟩, hnx3⟩
        try simp only [] at hnx3
        clear hold1
        simp only [puts_some, updo]
        refine AOPS.runk 1 (by simp (disch := first|omega|(simp only[ln];omega)) [List.take_succ_cons, List.take_zero, idf_Wd', Sp.av, Sp.cells, Sg.av, Sg.cells]; rfl) ?_
        simp only [List.drop_succ_cons, List.drop_zero]
        refine AOPS.old fun hold3 => ?_
        refine AOPS.acall (spot_ac l p3 id _ _ dl hl hp3 (by simp (disch := omega) [hH]) hold3) rfl rfl rfl hb130 (by simp (disch := first|omega|(simp only[ln];omega)) [idf_Wd', Sp.av, Sp.cells, Sg.av, Sg.cells]) (by simp (disch := first|omega|(simp only[ln];omega))) (by simp) ?_
        rintro _ _ nx4 ⟨⟨cx, cy, rfl, cx0, cx1, cy0, cy1⟩, ⟨p4, hp4, rfl⟩, hnx4⟩
        try simp only [] at hnx4
        clear hold3
        simp only [puts_some, updo]
        refine AOPS.all (by simp (disch := first|omega|(simp only[ln];omega)) [idf_Wd', Sp.av, Sp.cells, Sg.av, Sg.cells]; rfl) ?_
        refine hK10 _ ?_
        refine AWP.ret ?_
        exact hK _ _ _ _ _ trivial ((Fin.mk (r := .agg [.int .i64 ((⟨⟨ax, ay⟩, ⟨cx, cy⟩⟩ : Sg)).a.x, .int .i64 ((⟨⟨ax, ay⟩, ⟨cx, cy⟩⟩ : Sg)).a.y, .int .i64 ((⟨⟨ax, ay⟩, ⟨cx, cy⟩⟩ : Sg)).b.x, .int .i64 ((⟨⟨ax, ay⟩, ⟨cx, cy⟩⟩ : Sg)).b.y]) (by simp (disch := omega) [aRes, aResL, aRes1, idf_Wd', Sp.av, Sp.cells, Sg.av, Sg.cells])).restr (fun i => decide (i < nx))) (⟨⟨(⟨⟨ax, ay⟩, ⟨cx, cy⟩⟩ : Sg), rfl, ⟨⟨by unfold I64; first | omega | (simp only []; omega), by unfold I64; first | omega | (simp only []; omega)⟩, ⟨by unfold I64; first | omega | (simp only []; omega), by unfold I64; first | omega | (simp only []; omega)⟩⟩⟩, ⟨p4, hp4, by simp (disch := first | omega | (simp; done) | (simp; omega)) [hrestr_in, hrestr_out, hrestr_all hd, hupd_same]⟩, by first | omega | (simp at *; omega)⟩)
      · try simp only [decide_eq_true_eq, decide_eq_false_iff_not] at h41
        refine AWP.skip ?_
        refine hK2 _ ?_
        refine AWP.seqk fun K11 hK11 => ?_
        refine AWP.region ?_
        refine AOPS.runk 1 (by simp (disch := first|omega|(simp only[ln];omega)) [List.take_succ_cons, List.take_zero, idf_Wd', Sp.av, Sp.cells, Sg.av, Sg.cells]; rfl) ?_
        simp only [List.drop_succ_cons, List.drop_zero]
        refine AOPS.old fun hold1 => ?_
        refine AOPS.acall (spot_ac l p2 id _ _ dl hl hp2 (by simp (disch := omega) [hH]) hold1) rfl rfl rfl hb130 (by simp (disch := first|omega|(simp only[ln];omega)) [idf_Wd', Sp.av, Sp.cells, Sg.av, Sg.cells]) (by simp (disch := first|omega|(simp only[ln];omega))) (by simp) ?_
        rintro _ _ nx3 ⟨⟨ax, ay, rfl, ax0, ax1, ay0, ay1⟩, ⟨p3, hp3, rfl⟩, hnx3⟩
        try simp only [] at hnx3
        clear hold1
        simp only [puts_some, updo]
        refine AOPS.all (by simp (disch := first|omega|(simp only[ln];omega)) [idf_Wd', Sp.av, Sp.cells, Sg.av, Sg.cells]; rfl) ?_
        refine hK11 _ ?_
        refine AWP.seqk fun K12 hK12 => ?_
        refine AWP.region ?_
        refine AOPS.runk 1 (by simp (disch := first|omega|(simp only[ln];omega)) [List.take_succ_cons, List.take_zero, idf_Wd', Sp.av, Sp.cells, Sg.av, Sg.cells]; rfl) ?_
        simp only [List.drop_succ_cons, List.drop_zero]
        refine AOPS.old fun hold1 => ?_
        refine AOPS.acall (spot_ac l p3 id _ _ dl hl hp3 (by simp (disch := omega) [hH]) hold1) rfl rfl rfl hb130 (by simp (disch := first|omega|(simp only[ln];omega)) [idf_Wd', Sp.av, Sp.cells, Sg.av, Sg.cells]) (by simp (disch := first|omega|(simp only[ln];omega))) (by simp) ?_
        rintro _ _ nx4 ⟨⟨cx, cy, rfl, cx0, cx1, cy0, cy1⟩, ⟨p4, hp4, rfl⟩, hnx4⟩
        try simp only [] at hnx4
        clear hold1
        simp only [puts_some, updo]
        refine AOPS.all (by simp (disch := first|omega|(simp only[ln];omega)) [idf_Wd', Sp.av, Sp.cells, Sg.av, Sg.cells]; rfl) ?_
        refine hK12 _ ?_
        refine AWP.seqk fun K13 hK13 => ?_
        refine AWP.seqk fun K14 hK14 => ?_
        by_cases he : (⟨ax, ay⟩ : Sp) = ⟨cx, cy⟩
        · have hc : decide ((⟨ax, ay⟩ : Sp) = ⟨cx, cy⟩) = true := by simp [he]
          have hq := eqW2 ⟨ax, ay⟩ ⟨cx, cy⟩
          rw [hc] at hq
          simp only [] at hq
          refine AWP.region (AOPS.all (by simp (disch := first|omega|(simp only[ln];omega)) [idf_Wd', Sp.av, Sp.cells, Sg.av, Sg.cells, hq]; rfl) ?_)
          refine hK14 _ ?_
          refine cond_ok _ (by simp (disch := first|omega|(simp only[ln];omega)); rfl) (fun h54 => ?_) (fun h54 => ?_)
          · try simp only [decide_eq_true_eq, decide_eq_false_iff_not] at h54
            refine AWP.region (AOPS.all (by simp (disch := first|omega|(simp only[ln];omega)) [idf_Wd', Sp.av, Sp.cells, Sg.av, Sg.cells]; rfl) ?_)
            refine hK13 _ ?_
            refine AWP.seqk fun K15 hK15 => ?_
            refine AWP.region ?_
            refine AOPS.runk 2 (by simp (disch := first|omega|(simp only[ln];omega)) [List.take_succ_cons, List.take_zero, idf_Wd', Sp.av, Sp.cells, Sg.av, Sg.cells]; rfl) ?_
            simp only [List.drop_succ_cons, List.drop_zero]
            refine AOPS.fcall (segOfS_fc ⟨ax, ay⟩ ⟨cx + 1, cy⟩) rfl rfl rfl hb155 (by simp (disch := first|omega|(simp only[ln];omega)) [idf_Wd', Sp.av, Sp.cells, Sg.av, Sg.cells]) (by simp (disch := first|omega|(simp only[ln];omega))) (by simp) ?_
            simp only [puts_some, updo]
            refine AOPS.all (by simp (disch := first|omega|(simp only[ln];omega)) [idf_Wd', Sp.av, Sp.cells, Sg.av, Sg.cells]; rfl) ?_
            refine hK15 _ ?_
            refine AWP.seqk fun K16 hK16 => ?_
            refine AWP.region (AOPS.all (by simp (disch := first|omega|(simp only[ln];omega)) [idf_Wd', Sp.av, Sp.cells, Sg.av, Sg.cells]; rfl) ?_)
            refine hK16 _ ?_
            refine AWP.ret ?_
            exact hK _ _ _ _ _ trivial ((Fin.mk (r := .agg [.int .i64 ((segS ⟨ax, ay⟩ ⟨cx + 1, cy⟩).1).a.x, .int .i64 ((segS ⟨ax, ay⟩ ⟨cx + 1, cy⟩).1).a.y, .int .i64 ((segS ⟨ax, ay⟩ ⟨cx + 1, cy⟩).1).b.x, .int .i64 ((segS ⟨ax, ay⟩ ⟨cx + 1, cy⟩).1).b.y]) (by simp (disch := omega) [aRes, aResL, aRes1, idf_Wd', Sp.av, Sp.cells, Sg.av, Sg.cells])).restr (fun i => decide (i < nx))) (⟨⟨(segS ⟨ax, ay⟩ ⟨cx + 1, cy⟩).1, rfl, segS_ok ⟨by unfold I64; first | omega | (simp only []; omega), by unfold I64; first | omega | (simp only []; omega)⟩ ⟨by unfold I64; first | omega | (simp only []; omega), by unfold I64; first | omega | (simp only []; omega)⟩⟩, ⟨p4, hp4, by simp (disch := first | omega | (simp; done) | (simp; omega)) [hrestr_in, hrestr_out, hrestr_all hd, hupd_same]⟩, by first | omega | (simp at *; omega)⟩)
          · simp at h54
        · have hc : decide ((⟨ax, ay⟩ : Sp) = ⟨cx, cy⟩) = false := by simp [he]
          have hq := eqW2 ⟨ax, ay⟩ ⟨cx, cy⟩
          rw [hc] at hq
          simp only [] at hq
          refine AWP.region (AOPS.all (by simp (disch := first|omega|(simp only[ln];omega)) [idf_Wd', Sp.av, Sp.cells, Sg.av, Sg.cells, hq]; rfl) ?_)
          refine hK14 _ ?_
          refine cond_ok _ (by simp (disch := first|omega|(simp only[ln];omega)); rfl) (fun h54 => ?_) (fun h54 => ?_)
          · simp at h54
          · try simp only [decide_eq_true_eq, decide_eq_false_iff_not] at h54
            refine AWP.skip ?_
            refine hK13 _ ?_
            refine AWP.seqk fun K17 hK17 => ?_
            refine AWP.region ?_
            refine AOPS.runk 2 (by simp (disch := first|omega|(simp only[ln];omega)) [List.take_succ_cons, List.take_zero, idf_Wd', Sp.av, Sp.cells, Sg.av, Sg.cells]; rfl) ?_
            simp only [List.drop_succ_cons, List.drop_zero]
            refine AOPS.fcall (segOfS_fc ⟨ax, ay⟩ ⟨cx, cy⟩) rfl rfl rfl hb155 (by simp (disch := first|omega|(simp only[ln];omega)) [idf_Wd', Sp.av, Sp.cells, Sg.av, Sg.cells]) (by simp (disch := first|omega|(simp only[ln];omega))) (by simp) ?_
            simp only [puts_some, updo]
            refine AOPS.all (by simp (disch := first|omega|(simp only[ln];omega)) [idf_Wd', Sp.av, Sp.cells, Sg.av, Sg.cells]; rfl) ?_
            refine hK17 _ ?_
            refine AWP.seqk fun K18 hK18 => ?_
            refine AWP.region (AOPS.all (by simp (disch := first|omega|(simp only[ln];omega)) [idf_Wd', Sp.av, Sp.cells, Sg.av, Sg.cells]; rfl) ?_)
            refine hK18 _ ?_
            refine AWP.ret ?_
            exact hK _ _ _ _ _ trivial ((Fin.mk (r := .agg [.int .i64 ((segS ⟨ax, ay⟩ ⟨cx, cy⟩).1).a.x, .int .i64 ((segS ⟨ax, ay⟩ ⟨cx, cy⟩).1).a.y, .int .i64 ((segS ⟨ax, ay⟩ ⟨cx, cy⟩).1).b.x, .int .i64 ((segS ⟨ax, ay⟩ ⟨cx, cy⟩).1).b.y]) (by simp (disch := omega) [aRes, aResL, aRes1, idf_Wd', Sp.av, Sp.cells, Sg.av, Sg.cells])).restr (fun i => decide (i < nx))) (⟨⟨(segS ⟨ax, ay⟩ ⟨cx, cy⟩).1, rfl, segS_ok ⟨by unfold I64; first | omega | (simp only []; omega), by unfold I64; first | omega | (simp only []; omega)⟩ ⟨by unfold I64; first | omega | (simp only []; omega), by unfold I64; first | omega | (simp only []; omega)⟩⟩, ⟨p4, hp4, by simp (disch := first | omega | (simp; done) | (simp; omega)) [hrestr_in, hrestr_out, hrestr_all hd, hupd_same]⟩, by first | omega | (simp at *; omega)⟩)

end Go.Proofs.Ytmaebeknmiomnaa

/- Walks: FnOver, walked. -/
namespace Go.Proofs.Ytmaebeknmiomnaa
open Go Go.RowKit
set_option linter.unusedSimpArgs false
set_option linter.unusedVariables false
set_option maxRecDepth 100000
attribute [local simp] List.getElem?_cons_zero List.getElem?_cons_succ List.getElem?_toArray runOps stepOp.eq_def agd.eq_def dstOk.eq_def opVal.eq_def opNew.eq_def opSto.eq_def ev.eq_def cv.eq_def puts_some puts_none upd_ap lst.eq_def aBin.eq_def aUn.eq_def aBi_str aBi_isl aBi_osl aBi_nsl aBi_max aBi_min aBi_max3 aConv.eq_def aLd.eq_def aLoad.eq_def aField.eq_def aFld.eq_def aIdx_isl aIdx_osl aSlc_isl aSlc_osl aSlc_str aSlc_nsl bnd.eq_def evs_nil evs_cons aBuild.eq_def aFill splice.eq_def cells_agg cells_int cells_bool cells_str cells_nil cells_nsl cells_isl cells_osl cells_ptr cells_ip cells_fn cells_Wd one_int one_bool one_str one_nil one_nsl one_isl one_osl one_ptr one_ip one_fn one_Wd aSets hupd_eq hupd_ne wrap_i64s wrap_u64s wrap_u32s wrap_u8s wd_getD wd_set wd_len wd_replicate wd_one wd_fold fz_osl hupd_same aSix.eq_def aEqS.eq_def aEqB_bool aEqB_nsl aEqB_nil
attribute [local simp] szT2 byT2 agT2 unT2 zoT2 szT4 byT4 agT4 unT4 zoT4 szT26 byT26 agT26 flT26 fdT26_0 fdT26_1 fdT26_2 fdT26_3 zoT26 szT28 byT28 agT28 flT28 fdT28_0 fdT28_1 fdT28_2 zoT28 szT67 byT67 agT67 flT67 fdT67_0 fdT67_1 zoT67 szT69 byT69 agT69 flT69 fdT69_0 fdT69_1 zoT69 szT117 byT117 agT117 elT117 unT117 zoT117 szT119 byT119 agT119 flT119 fdT119_0 fdT119_1 zoT119 szT121 byT121 agT121 flT121 fdT121_0 fdT121_1 fdT121_2 zoT121

theorem sideEq {s : Sg} {p : Pt} (h : s.good = true) (hp : p.good = true) : siF s p = sdF s p := by unfold siF; rw [h, hp]; rfl
theorem ovEq {s : Sg} {p : Pt} (h : s.good = true) (hp : p.good = true) : ovF s p = ovI s p := by unfold ovF; rw [h, hp]; rfl

set_option maxHeartbeats 4000000 in
theorem sideOfI_fc (s : Sg) (p : Pt) (gs : s.good = true) (hp : p.ok) : FC Try.prog 121 [s.av, p.av] (.int .i64 (sdF s p)) := by
  obtain ⟨ax0, ax1, ay0, ay1⟩ := Sp.b (good_a gs)
  obtain ⟨bx0, bx1, by0, by1⟩ := Sp.b (good_b gs)
  have pX := W4.bg hp.1
  have pY := W4.bg hp.2.1
  have pW := W4.bg hp.2.2
  have aX : Bg 1 s.a.x := Bg.i64 (by omega) (by omega)
  have aY : Bg 1 s.a.y := Bg.i64 (by omega) (by omega)
  have bX : Bg 1 s.b.x := Bg.i64 (by omega) (by omega)
  have bY : Bg 1 s.b.y := Bg.i64 (by omega) (by omega)
  have dX' : Bg 1 (s.b.x - s.a.x) := Bg.i64 (by omega) (by omega)
  have dY' : Bg 1 (s.b.y - s.a.y) := Bg.i64 (by omega) (by omega)
  refine FC.body Try.func121 rfl (by simp [idfL, idf, Sp.av, Sp.cells, Sg.av, Sg.cells, Pt.av, Pt.cells]) (by simp [idfL, idf, idfLL_iff, idf_Wd', idf_numS, cells_numS, numS_fold, idf_numI, cells_numI, numI_fold, Sp.av, Sp.cells, Sg.av, Sg.cells, Pt.av, Pt.cells, spA, spC, numC]) 52 rfl fun nx K hK => ?_
  refine AWP.seqk fun K1 hK1 => ?_
  refine AWP.region (AOPS.all (by simp (disch := first|omega|(simp only[ln];omega)) [idf_Wd', idf_numS, cells_numS, numS_fold, idf_numI, cells_numI, numI_fold, Sp.av, Sp.cells, Sg.av, Sg.cells, Pt.av, Pt.cells, spA, spC, numC]; rfl) ?_)
  refine hK1 _ ?_
  refine AWP.seqk fun K2 hK2 => ?_
  refine AWP.region ?_
  refine AOPS.runk 1 (by simp (disch := first|omega|(simp only[ln];omega)) [List.take_succ_cons, List.take_zero, idf_Wd', idf_numS, cells_numS, numS_fold, idf_numI, cells_numI, numI_fold, Sp.av, Sp.cells, Sg.av, Sg.cells, Pt.av, Pt.cells, spA, spC, numC]; rfl) ?_
  simp only [List.drop_succ_cons, List.drop_zero]
  refine AOPS.fcall (spot_fc p hp) rfl rfl rfl hb84 (by simp (disch := first|omega|(simp only[ln];omega)) [idf_Wd', idf_numS, cells_numS, numS_fold, idf_numI, cells_numI, numI_fold, Sp.av, Sp.cells, Sg.av, Sg.cells, Pt.av, Pt.cells, spA, spC, numC]) (by simp (disch := first|omega|(simp only[ln];omega))) (by simp) ?_
  simp only [puts_some, updo]
  refine AOPS.all (by simp (disch := first|omega|(simp only[ln];omega)) [idf_Wd', idf_numS, cells_numS, numS_fold, idf_numI, cells_numI, numI_fold, Sp.av, Sp.cells, Sg.av, Sg.cells, Pt.av, Pt.cells, spA, spC, numC]; rfl) ?_
  refine hK2 _ ?_
  refine AWP.seqk fun K3 hK3 => ?_
  refine AWP.draw 11 Try.checked.mixed (by kernel_rfl) (by simp) ?_
  simp only [List.take_succ_cons, List.take_zero, List.drop_succ_cons, List.drop_zero]
  refine DP.runFk 5 (by simp (disch := first|omega|(simp only[ln];omega)) [runDf.eq_def, runF1, runF2, stepF.eq_def, updo.eq_def, hupo.eq_def, opSto1.eq_def, List.take_succ_cons, List.take_zero, idf_Wd', idf_numS, cells_numS, numS_fold, idf_numI, cells_numI, numI_fold, Sp.av, Sp.cells, Sg.av, Sg.cells, Pt.av, Pt.cells, spA, spC, numC]; rfl) fun fs4 hfs4 => ?_
  replace hfs4 : fs4.length = 5 := hfs4.trans rfl
  simp only [List.drop_succ_cons, List.drop_zero]
  refine DP.fcall (whole_fc s.a.x (by omega) (by omega)) rfl rfl rfl hb89 (by simp (disch := first|omega|(simp only[ln];omega)) [idf_Wd', idf_numS, cells_numS, numS_fold, idf_numI, cells_numI, numI_fold, Sp.av, Sp.cells, Sg.av, Sg.cells, Pt.av, Pt.cells, spA, spC, numC]) (by simp (disch := first|omega|(simp only[ln];omega))) (by simp) ?_
  simp only [updo]
  refine DP.runFk 2 (by simp (disch := first|omega|(simp only[ln];omega)) [runDf.eq_def, runF1, runF2, stepF.eq_def, updo.eq_def, hupo.eq_def, opSto1.eq_def, List.take_succ_cons, List.take_zero, idf_Wd', idf_numS, cells_numS, numS_fold, idf_numI, cells_numI, numI_fold, Sp.av, Sp.cells, Sg.av, Sg.cells, Pt.av, Pt.cells, spA, spC, numC]; rfl) fun fs5 hfs5 => ?_
  replace hfs5 : fs5.length = 2 := hfs5.trans rfl
  simp only [List.drop_succ_cons, List.drop_zero]
  refine DP.fcall (by_fc aX pW (by omega) (by omega)) rfl rfl rfl hb92 (by simp (disch := first|omega|(simp only[ln];omega)) [idf_Wd', idf_numS, cells_numS, numS_fold, idf_numI, cells_numI, numI_fold, Sp.av, Sp.cells, Sg.av, Sg.cells, Pt.av, Pt.cells, spA, spC, numC]) (by simp (disch := first|omega|(simp only[ln];omega))) (by simp) ?_
  simp only [updo]
  refine DP.fcall (less_fc pX (aX.mul pW) (by omega) (by omega)) rfl rfl rfl hb109 (by simp (disch := first|omega|(simp only[ln];omega)) [idf_Wd', idf_numS, cells_numS, numS_fold, idf_numI, cells_numI, numI_fold, Sp.av, Sp.cells, Sg.av, Sg.cells, Pt.av, Pt.cells, spA, spC, numC]) (by simp (disch := first|omega|(simp only[ln];omega))) (by simp) ?_
  simp only [updo]
  refine DP.runFk 1 (by simp (disch := first|omega|(simp only[ln];omega)) [runDf.eq_def, runF1, runF2, stepF.eq_def, updo.eq_def, hupo.eq_def, opSto1.eq_def, List.take_succ_cons, List.take_zero, idf_Wd', idf_numS, cells_numS, numS_fold, idf_numI, cells_numI, numI_fold, Sp.av, Sp.cells, Sg.av, Sg.cells, Pt.av, Pt.cells, spA, spC, numC]; rfl) fun fs6 hfs6 => ?_
  replace hfs6 : fs6.length = 1 := hfs6.trans rfl
  simp only [List.drop_succ_cons, List.drop_zero]
  refine DQ.runF (m := 11) (by simp only [List.length_append, List.length_cons, List.length_nil, hfs4, hfs5, hfs6]; omega) _ _ _ (by kernel_rfl) rfl (by simp (disch := first|omega|(simp only[ln];omega)) [runDf.eq_def, runF1, runF2, stepF.eq_def, updo.eq_def, hupo.eq_def, opSto1.eq_def, idf_Wd', idf_numS, cells_numS, numS_fold, idf_numI, cells_numI, numI_fold, Sp.av, Sp.cells, Sg.av, Sg.cells, Pt.av, Pt.cells, spA, spC, numC]; rfl) ?_
  refine hK3 _ ?_
  refine AWP.seqk fun K7 hK7 => ?_
  refine AWP.draw 11 Try.checked.mixed (by kernel_rfl) (by simp) ?_
  simp only [List.take_succ_cons, List.take_zero, List.drop_succ_cons, List.drop_zero]
  refine DP.runFk 5 (by simp (disch := first|omega|(simp only[ln];omega)) [runDf.eq_def, runF1, runF2, stepF.eq_def, updo.eq_def, hupo.eq_def, opSto1.eq_def, List.take_succ_cons, List.take_zero, idf_Wd', idf_numS, cells_numS, numS_fold, idf_numI, cells_numI, numI_fold, Sp.av, Sp.cells, Sg.av, Sg.cells, Pt.av, Pt.cells, spA, spC, numC]; rfl) fun fs8 hfs8 => ?_
  replace hfs8 : fs8.length = 5 := hfs8.trans rfl
  simp only [List.drop_succ_cons, List.drop_zero]
  refine DP.fcall (whole_fc s.a.y (by omega) (by omega)) rfl rfl rfl hb89 (by simp (disch := first|omega|(simp only[ln];omega)) [idf_Wd', idf_numS, cells_numS, numS_fold, idf_numI, cells_numI, numI_fold, Sp.av, Sp.cells, Sg.av, Sg.cells, Pt.av, Pt.cells, spA, spC, numC]) (by simp (disch := first|omega|(simp only[ln];omega))) (by simp) ?_
  simp only [updo]
  refine DP.runFk 2 (by simp (disch := first|omega|(simp only[ln];omega)) [runDf.eq_def, runF1, runF2, stepF.eq_def, updo.eq_def, hupo.eq_def, opSto1.eq_def, List.take_succ_cons, List.take_zero, idf_Wd', idf_numS, cells_numS, numS_fold, idf_numI, cells_numI, numI_fold, Sp.av, Sp.cells, Sg.av, Sg.cells, Pt.av, Pt.cells, spA, spC, numC]; rfl) fun fs9 hfs9 => ?_
  replace hfs9 : fs9.length = 2 := hfs9.trans rfl
  simp only [List.drop_succ_cons, List.drop_zero]
  refine DP.fcall (by_fc aY pW (by omega) (by omega)) rfl rfl rfl hb92 (by simp (disch := first|omega|(simp only[ln];omega)) [idf_Wd', idf_numS, cells_numS, numS_fold, idf_numI, cells_numI, numI_fold, Sp.av, Sp.cells, Sg.av, Sg.cells, Pt.av, Pt.cells, spA, spC, numC]) (by simp (disch := first|omega|(simp only[ln];omega))) (by simp) ?_
  simp only [updo]
  refine DP.fcall (less_fc pY (aY.mul pW) (by omega) (by omega)) rfl rfl rfl hb109 (by simp (disch := first|omega|(simp only[ln];omega)) [idf_Wd', idf_numS, cells_numS, numS_fold, idf_numI, cells_numI, numI_fold, Sp.av, Sp.cells, Sg.av, Sg.cells, Pt.av, Pt.cells, spA, spC, numC]) (by simp (disch := first|omega|(simp only[ln];omega))) (by simp) ?_
  simp only [updo]
  refine DP.runFk 1 (by simp (disch := first|omega|(simp only[ln];omega)) [runDf.eq_def, runF1, runF2, stepF.eq_def, updo.eq_def, hupo.eq_def, opSto1.eq_def, List.take_succ_cons, List.take_zero, idf_Wd', idf_numS, cells_numS, numS_fold, idf_numI, cells_numI, numI_fold, Sp.av, Sp.cells, Sg.av, Sg.cells, Pt.av, Pt.cells, spA, spC, numC]; rfl) fun fs10 hfs10 => ?_
  replace hfs10 : fs10.length = 1 := hfs10.trans rfl
  simp only [List.drop_succ_cons, List.drop_zero]
  refine DQ.runF (m := 11) (by simp only [List.length_append, List.length_cons, List.length_nil, hfs8, hfs9, hfs10]; omega) _ _ _ (by kernel_rfl) rfl (by simp (disch := first|omega|(simp only[ln];omega)) [runDf.eq_def, runF1, runF2, stepF.eq_def, updo.eq_def, hupo.eq_def, opSto1.eq_def, idf_Wd', idf_numS, cells_numS, numS_fold, idf_numI, cells_numI, numI_fold, Sp.av, Sp.cells, Sg.av, Sg.cells, Pt.av, Pt.cells, spA, spC, numC]; rfl) ?_
  refine hK7 _ ?_
  refine AWP.seqk fun K11 hK11 => ?_
  have bQ := pX.sub (aX.mul pW)
  have bR := pY.sub (aY.mul pW)
  have hs : FC Try.prog 85 [numI ((s.b.x - s.a.x) * (p.y.v - s.a.y * p.w.v) - (s.b.y - s.a.y) * (p.x.v - s.a.x * p.w.v))] (.int .i64 (sdF s p)) := sign_fc (sdZ s p)
  refine AWP.draw 22 Try.checked.mixed (by kernel_rfl) (by simp) ?_
  simp only [List.take_succ_cons, List.take_zero, List.drop_succ_cons, List.drop_zero]
  refine DP.runFk 7 (by simp (disch := first|omega|(simp only[ln];omega)) [runDf.eq_def, runF1, runF2, stepF.eq_def, updo.eq_def, hupo.eq_def, opSto1.eq_def, List.take_succ_cons, List.take_zero, idf_Wd', idf_numS, cells_numS, numS_fold, idf_numI, cells_numI, numI_fold, Sp.av, Sp.cells, Sg.av, Sg.cells, Pt.av, Pt.cells, spA, spC, numC]; rfl) fun fs12 hfs12 => ?_
  replace hfs12 : fs12.length = 7 := hfs12.trans rfl
  simp only [List.drop_succ_cons, List.drop_zero]
  refine DP.fcall (whole_fc (s.b.x - s.a.x) (by omega) (by omega)) rfl rfl rfl hb89 (by simp (disch := first|omega|(simp only[ln];omega)) [idf_Wd', idf_numS, cells_numS, numS_fold, idf_numI, cells_numI, numI_fold, Sp.av, Sp.cells, Sg.av, Sg.cells, Pt.av, Pt.cells, spA, spC, numC]) (by simp (disch := first|omega|(simp only[ln];omega))) (by simp) ?_
  simp only [updo]
  refine DP.runFk 1 (by simp (disch := first|omega|(simp only[ln];omega)) [runDf.eq_def, runF1, runF2, stepF.eq_def, updo.eq_def, hupo.eq_def, opSto1.eq_def, List.take_succ_cons, List.take_zero, idf_Wd', idf_numS, cells_numS, numS_fold, idf_numI, cells_numI, numI_fold, Sp.av, Sp.cells, Sg.av, Sg.cells, Pt.av, Pt.cells, spA, spC, numC]; rfl) fun fs13 hfs13 => ?_
  replace hfs13 : fs13.length = 1 := hfs13.trans rfl
  simp only [List.drop_succ_cons, List.drop_zero]
  refine DP.fcall (by_fc dX' bR (by omega) (by omega)) rfl rfl rfl hb92 (by simp (disch := first|omega|(simp only[ln];omega)) [idf_Wd', idf_numS, cells_numS, numS_fold, idf_numI, cells_numI, numI_fold, Sp.av, Sp.cells, Sg.av, Sg.cells, Pt.av, Pt.cells, spA, spC, numC]) (by simp (disch := first|omega|(simp only[ln];omega))) (by simp) ?_
  simp only [updo]
  refine DP.runFk 7 (by simp (disch := first|omega|(simp only[ln];omega)) [runDf.eq_def, runF1, runF2, stepF.eq_def, updo.eq_def, hupo.eq_def, opSto1.eq_def, List.take_succ_cons, List.take_zero, idf_Wd', idf_numS, cells_numS, numS_fold, idf_numI, cells_numI, numI_fold, Sp.av, Sp.cells, Sg.av, Sg.cells, Pt.av, Pt.cells, spA, spC, numC]; rfl) fun fs14 hfs14 => ?_
  replace hfs14 : fs14.length = 7 := hfs14.trans rfl
  simp only [List.drop_succ_cons, List.drop_zero]
  refine DP.fcall (whole_fc (s.b.y - s.a.y) (by omega) (by omega)) rfl rfl rfl hb89 (by simp (disch := first|omega|(simp only[ln];omega)) [idf_Wd', idf_numS, cells_numS, numS_fold, idf_numI, cells_numI, numI_fold, Sp.av, Sp.cells, Sg.av, Sg.cells, Pt.av, Pt.cells, spA, spC, numC]) (by simp (disch := first|omega|(simp only[ln];omega))) (by simp) ?_
  simp only [updo]
  refine DP.runFk 1 (by simp (disch := first|omega|(simp only[ln];omega)) [runDf.eq_def, runF1, runF2, stepF.eq_def, updo.eq_def, hupo.eq_def, opSto1.eq_def, List.take_succ_cons, List.take_zero, idf_Wd', idf_numS, cells_numS, numS_fold, idf_numI, cells_numI, numI_fold, Sp.av, Sp.cells, Sg.av, Sg.cells, Pt.av, Pt.cells, spA, spC, numC]; rfl) fun fs15 hfs15 => ?_
  replace hfs15 : fs15.length = 1 := hfs15.trans rfl
  simp only [List.drop_succ_cons, List.drop_zero]
  refine DP.fcall (by_fc dY' bQ (by omega) (by omega)) rfl rfl rfl hb92 (by simp (disch := first|omega|(simp only[ln];omega)) [idf_Wd', idf_numS, cells_numS, numS_fold, idf_numI, cells_numI, numI_fold, Sp.av, Sp.cells, Sg.av, Sg.cells, Pt.av, Pt.cells, spA, spC, numC]) (by simp (disch := first|omega|(simp only[ln];omega))) (by simp) ?_
  simp only [updo]
  refine DP.fcall (less_fc (dX'.mul bR) (dY'.mul bQ) (by omega) (by omega)) rfl rfl rfl hb109 (by simp (disch := first|omega|(simp only[ln];omega)) [idf_Wd', idf_numS, cells_numS, numS_fold, idf_numI, cells_numI, numI_fold, Sp.av, Sp.cells, Sg.av, Sg.cells, Pt.av, Pt.cells, spA, spC, numC]) (by simp (disch := first|omega|(simp only[ln];omega))) (by simp) ?_
  simp only [updo]
  refine DP.fcall (hs) rfl rfl rfl hb85 (by simp (disch := first|omega|(simp only[ln];omega)) [idf_Wd', idf_numS, cells_numS, numS_fold, idf_numI, cells_numI, numI_fold, Sp.av, Sp.cells, Sg.av, Sg.cells, Pt.av, Pt.cells, spA, spC, numC]) (by simp (disch := first|omega|(simp only[ln];omega))) (by simp) ?_
  simp only [updo]
  refine DQ.runF (m := 22) (by simp only [List.length_append, List.length_cons, List.length_nil, hfs12, hfs13, hfs14, hfs15]; omega) _ _ _ (by kernel_rfl) rfl (by simp (disch := first|omega|(simp only[ln];omega)) [runDf.eq_def, runF1, runF2, stepF.eq_def, updo.eq_def, hupo.eq_def, opSto1.eq_def, idf_Wd', idf_numS, cells_numS, numS_fold, idf_numI, cells_numI, numI_fold, Sp.av, Sp.cells, Sg.av, Sg.cells, Pt.av, Pt.cells, spA, spC, numC]; rfl) ?_
  refine hK11 _ ?_
  refine AWP.ret ?_
  exact hK _ _ _ _ trivial (Fin.mk (by simp (disch := first|omega|(simp only[ln];omega)) [aRes, aResL, aRes1, idf_Wd', idf_numS, cells_numS, numS_fold, idf_numI, cells_numI, numI_fold, Sp.av, Sp.cells, Sg.av, Sg.cells, Pt.av, Pt.cells, spA, spC, numC]))

set_option maxHeartbeats 4000000 in
theorem onSegI_fc (s : Sg) (p : Pt) (gs : s.good = true) (hp : p.ok) : FC Try.prog 127 [s.av, p.av] (.bool (onF s p)) := by
  have c1 := cmpPoints_fc (ptS s.a) p (pt3_ok _ _ _) hp
  have c2 := cmpPoints_fc p (ptS s.b) hp (pt3_ok _ _ _)
  have o1 := pointOfI_fc s.a (good_a gs)
  have o2 := pointOfI_fc s.b (good_b gs)
  refine FC.body Try.func127 rfl (by simp [idfL, idf, Sp.av, Sp.cells, Sg.av, Sg.cells, Pt.av, Pt.cells]) (by simp [idfL, idf, idfLL_iff, idf_Wd', idf_numS, cells_numS, numS_fold, idf_numI, cells_numI, numI_fold, Sp.av, Sp.cells, Sg.av, Sg.cells, Pt.av, Pt.cells]) 25 rfl fun nx K hK => ?_
  refine AWP.seqk fun K1 hK1 => ?_
  refine AWP.region (AOPS.all (by simp (disch := first|omega|(simp only[ln];omega)) [idf_Wd', idf_numS, cells_numS, numS_fold, idf_numI, cells_numI, numI_fold, Sp.av, Sp.cells, Sg.av, Sg.cells, Pt.av, Pt.cells]; rfl) ?_)
  refine hK1 _ ?_
  refine AWP.seqk fun K2 hK2 => ?_
  cases k1 : decide (cmV (ptS s.a) p ≤ 0)
  · refine AWP.draw 20 Try.checked.mixed (by kernel_rfl) (by simp) ?_
    simp only [List.take_succ_cons, List.take_zero, List.drop_succ_cons, List.drop_zero]
    refine DP.runFk 2 (by simp (disch := first|omega|(simp only[ln];omega)) [runDf.eq_def, runF1, runF2, stepF.eq_def, updo.eq_def, hupo.eq_def, opSto1.eq_def, List.take_succ_cons, List.take_zero, idf_Wd', idf_numS, cells_numS, numS_fold, idf_numI, cells_numI, numI_fold, Sp.av, Sp.cells, Sg.av, Sg.cells, Pt.av, Pt.cells, k1]; rfl) fun fs3 hfs3 => ?_
    replace hfs3 : fs3.length = 2 := hfs3.trans rfl
    simp only [List.drop_succ_cons, List.drop_zero]
    refine DP.fcall (o1) rfl rfl rfl hb50 (by simp (disch := first|omega|(simp only[ln];omega)) [idf_Wd', k1, idf_numS, cells_numS, numS_fold, idf_numI, cells_numI, numI_fold, Sp.av, Sp.cells, Sg.av, Sg.cells, Pt.av, Pt.cells]) (by simp (disch := first|omega|(simp only[ln];omega)) [k1]) (by simp) ?_
    simp only [updo]
    refine DP.runFk 1 (by simp (disch := first|omega|(simp only[ln];omega)) [runDf.eq_def, runF1, runF2, stepF.eq_def, updo.eq_def, hupo.eq_def, opSto1.eq_def, List.take_succ_cons, List.take_zero, idf_Wd', idf_numS, cells_numS, numS_fold, idf_numI, cells_numI, numI_fold, Sp.av, Sp.cells, Sg.av, Sg.cells, Pt.av, Pt.cells, k1]; rfl) fun fs4 hfs4 => ?_
    replace hfs4 : fs4.length = 1 := hfs4.trans rfl
    simp only [List.drop_succ_cons, List.drop_zero]
    refine DP.fcall (c1) rfl rfl rfl hb80 (by simp (disch := first|omega|(simp only[ln];omega)) [idf_Wd', k1, idf_numS, cells_numS, numS_fold, idf_numI, cells_numI, numI_fold, Sp.av, Sp.cells, Sg.av, Sg.cells, Pt.av, Pt.cells]) (by simp (disch := first|omega|(simp only[ln];omega)) [k1]) (by simp) ?_
    simp only [updo]
    refine DP.runFk 15 (by simp (disch := first|omega|(simp only[ln];omega)) [runDf.eq_def, runF1, runF2, stepF.eq_def, updo.eq_def, hupo.eq_def, opSto1.eq_def, List.take_succ_cons, List.take_zero, idf_Wd', idf_numS, cells_numS, numS_fold, idf_numI, cells_numI, numI_fold, Sp.av, Sp.cells, Sg.av, Sg.cells, Pt.av, Pt.cells, k1]; rfl) fun fs5 hfs5 => ?_
    replace hfs5 : fs5.length = 15 := hfs5.trans rfl
    simp only [List.drop_succ_cons, List.drop_zero]
    refine DQ.runF (m := 20) (by simp only [List.length_append, List.length_cons, List.length_nil, hfs3, hfs4, hfs5]; omega) _ _ _ (by kernel_rfl) rfl (by simp (disch := first|omega|(simp only[ln];omega)) [runDf.eq_def, runF1, runF2, stepF.eq_def, updo.eq_def, hupo.eq_def, opSto1.eq_def, idf_Wd', idf_numS, cells_numS, numS_fold, idf_numI, cells_numI, numI_fold, Sp.av, Sp.cells, Sg.av, Sg.cells, Pt.av, Pt.cells, k1]; rfl) ?_
    refine hK2 _ ?_
    refine AWP.ret ?_
    exact hK _ _ _ _ trivial ((Fin.mk (by simp [aRes, aResL, aRes1, idf_Wd', idf_numS, cells_numS, numS_fold, idf_numI, cells_numI, numI_fold, Sp.av, Sp.cells, Sg.av, Sg.cells, Pt.av, Pt.cells]; try rfl)).cast (by unfold onF; rw [k1]; rfl))
  · cases k2 : decide (cmV p (ptS s.b) ≤ 0)
    · refine AWP.draw 20 Try.checked.mixed (by kernel_rfl) (by simp) ?_
      simp only [List.take_succ_cons, List.take_zero, List.drop_succ_cons, List.drop_zero]
      refine DP.runFk 2 (by simp (disch := first|omega|(simp only[ln];omega)) [runDf.eq_def, runF1, runF2, stepF.eq_def, updo.eq_def, hupo.eq_def, opSto1.eq_def, List.take_succ_cons, List.take_zero, idf_Wd', idf_numS, cells_numS, numS_fold, idf_numI, cells_numI, numI_fold, Sp.av, Sp.cells, Sg.av, Sg.cells, Pt.av, Pt.cells, k1, k2]; rfl) fun fs6 hfs6 => ?_
      replace hfs6 : fs6.length = 2 := hfs6.trans rfl
      simp only [List.drop_succ_cons, List.drop_zero]
      refine DP.fcall (o1) rfl rfl rfl hb50 (by simp (disch := first|omega|(simp only[ln];omega)) [idf_Wd', k1, k2, idf_numS, cells_numS, numS_fold, idf_numI, cells_numI, numI_fold, Sp.av, Sp.cells, Sg.av, Sg.cells, Pt.av, Pt.cells]) (by simp (disch := first|omega|(simp only[ln];omega)) [k1, k2]) (by simp) ?_
      simp only [updo]
      refine DP.runFk 1 (by simp (disch := first|omega|(simp only[ln];omega)) [runDf.eq_def, runF1, runF2, stepF.eq_def, updo.eq_def, hupo.eq_def, opSto1.eq_def, List.take_succ_cons, List.take_zero, idf_Wd', idf_numS, cells_numS, numS_fold, idf_numI, cells_numI, numI_fold, Sp.av, Sp.cells, Sg.av, Sg.cells, Pt.av, Pt.cells, k1, k2]; rfl) fun fs7 hfs7 => ?_
      replace hfs7 : fs7.length = 1 := hfs7.trans rfl
      simp only [List.drop_succ_cons, List.drop_zero]
      refine DP.fcall (c1) rfl rfl rfl hb80 (by simp (disch := first|omega|(simp only[ln];omega)) [idf_Wd', k1, k2, idf_numS, cells_numS, numS_fold, idf_numI, cells_numI, numI_fold, Sp.av, Sp.cells, Sg.av, Sg.cells, Pt.av, Pt.cells]) (by simp (disch := first|omega|(simp only[ln];omega)) [k1, k2]) (by simp) ?_
      simp only [updo]
      refine DP.runFk 5 (by simp (disch := first|omega|(simp only[ln];omega)) [runDf.eq_def, runF1, runF2, stepF.eq_def, updo.eq_def, hupo.eq_def, opSto1.eq_def, List.take_succ_cons, List.take_zero, idf_Wd', idf_numS, cells_numS, numS_fold, idf_numI, cells_numI, numI_fold, Sp.av, Sp.cells, Sg.av, Sg.cells, Pt.av, Pt.cells, k1, k2]; rfl) fun fs8 hfs8 => ?_
      replace hfs8 : fs8.length = 5 := hfs8.trans rfl
      simp only [List.drop_succ_cons, List.drop_zero]
      refine DP.fcall (o2) rfl rfl rfl hb50 (by simp (disch := first|omega|(simp only[ln];omega)) [idf_Wd', k1, k2, idf_numS, cells_numS, numS_fold, idf_numI, cells_numI, numI_fold, Sp.av, Sp.cells, Sg.av, Sg.cells, Pt.av, Pt.cells]) (by simp (disch := first|omega|(simp only[ln];omega)) [k1, k2]) (by simp) ?_
      simp only [updo]
      refine DP.fcall (c2) rfl rfl rfl hb80 (by simp (disch := first|omega|(simp only[ln];omega)) [idf_Wd', k1, k2, idf_numS, cells_numS, numS_fold, idf_numI, cells_numI, numI_fold, Sp.av, Sp.cells, Sg.av, Sg.cells, Pt.av, Pt.cells]) (by simp (disch := first|omega|(simp only[ln];omega)) [k1, k2]) (by simp) ?_
      simp only [updo]
      refine DP.runFk 8 (by simp (disch := first|omega|(simp only[ln];omega)) [runDf.eq_def, runF1, runF2, stepF.eq_def, updo.eq_def, hupo.eq_def, opSto1.eq_def, List.take_succ_cons, List.take_zero, idf_Wd', idf_numS, cells_numS, numS_fold, idf_numI, cells_numI, numI_fold, Sp.av, Sp.cells, Sg.av, Sg.cells, Pt.av, Pt.cells, k1, k2]; rfl) fun fs9 hfs9 => ?_
      replace hfs9 : fs9.length = 8 := hfs9.trans rfl
      simp only [List.drop_succ_cons, List.drop_zero]
      refine DQ.runF (m := 20) (by simp only [List.length_append, List.length_cons, List.length_nil, hfs6, hfs7, hfs8, hfs9]; omega) _ _ _ (by kernel_rfl) rfl (by simp (disch := first|omega|(simp only[ln];omega)) [runDf.eq_def, runF1, runF2, stepF.eq_def, updo.eq_def, hupo.eq_def, opSto1.eq_def, idf_Wd', idf_numS, cells_numS, numS_fold, idf_numI, cells_numI, numI_fold, Sp.av, Sp.cells, Sg.av, Sg.cells, Pt.av, Pt.cells, k1, k2]; rfl) ?_
      refine hK2 _ ?_
      refine AWP.ret ?_
      exact hK _ _ _ _ trivial ((Fin.mk (by simp [aRes, aResL, aRes1, idf_Wd', idf_numS, cells_numS, numS_fold, idf_numI, cells_numI, numI_fold, Sp.av, Sp.cells, Sg.av, Sg.cells, Pt.av, Pt.cells]; try rfl)).cast (by unfold onF; rw [k1, k2]; rfl))
    · refine AWP.draw 20 Try.checked.mixed (by kernel_rfl) (by simp) ?_
      simp only [List.take_succ_cons, List.take_zero, List.drop_succ_cons, List.drop_zero]
      refine DP.runFk 2 (by simp (disch := first|omega|(simp only[ln];omega)) [runDf.eq_def, runF1, runF2, stepF.eq_def, updo.eq_def, hupo.eq_def, opSto1.eq_def, List.take_succ_cons, List.take_zero, idf_Wd', idf_numS, cells_numS, numS_fold, idf_numI, cells_numI, numI_fold, Sp.av, Sp.cells, Sg.av, Sg.cells, Pt.av, Pt.cells, k1, k2]; rfl) fun fs10 hfs10 => ?_
      replace hfs10 : fs10.length = 2 := hfs10.trans rfl
      simp only [List.drop_succ_cons, List.drop_zero]
      refine DP.fcall (o1) rfl rfl rfl hb50 (by simp (disch := first|omega|(simp only[ln];omega)) [idf_Wd', k1, k2, idf_numS, cells_numS, numS_fold, idf_numI, cells_numI, numI_fold, Sp.av, Sp.cells, Sg.av, Sg.cells, Pt.av, Pt.cells]) (by simp (disch := first|omega|(simp only[ln];omega)) [k1, k2]) (by simp) ?_
      simp only [updo]
      refine DP.runFk 1 (by simp (disch := first|omega|(simp only[ln];omega)) [runDf.eq_def, runF1, runF2, stepF.eq_def, updo.eq_def, hupo.eq_def, opSto1.eq_def, List.take_succ_cons, List.take_zero, idf_Wd', idf_numS, cells_numS, numS_fold, idf_numI, cells_numI, numI_fold, Sp.av, Sp.cells, Sg.av, Sg.cells, Pt.av, Pt.cells, k1, k2]; rfl) fun fs11 hfs11 => ?_
      replace hfs11 : fs11.length = 1 := hfs11.trans rfl
      simp only [List.drop_succ_cons, List.drop_zero]
      refine DP.fcall (c1) rfl rfl rfl hb80 (by simp (disch := first|omega|(simp only[ln];omega)) [idf_Wd', k1, k2, idf_numS, cells_numS, numS_fold, idf_numI, cells_numI, numI_fold, Sp.av, Sp.cells, Sg.av, Sg.cells, Pt.av, Pt.cells]) (by simp (disch := first|omega|(simp only[ln];omega)) [k1, k2]) (by simp) ?_
      simp only [updo]
      refine DP.runFk 5 (by simp (disch := first|omega|(simp only[ln];omega)) [runDf.eq_def, runF1, runF2, stepF.eq_def, updo.eq_def, hupo.eq_def, opSto1.eq_def, List.take_succ_cons, List.take_zero, idf_Wd', idf_numS, cells_numS, numS_fold, idf_numI, cells_numI, numI_fold, Sp.av, Sp.cells, Sg.av, Sg.cells, Pt.av, Pt.cells, k1, k2]; rfl) fun fs12 hfs12 => ?_
      replace hfs12 : fs12.length = 5 := hfs12.trans rfl
      simp only [List.drop_succ_cons, List.drop_zero]
      refine DP.fcall (o2) rfl rfl rfl hb50 (by simp (disch := first|omega|(simp only[ln];omega)) [idf_Wd', k1, k2, idf_numS, cells_numS, numS_fold, idf_numI, cells_numI, numI_fold, Sp.av, Sp.cells, Sg.av, Sg.cells, Pt.av, Pt.cells]) (by simp (disch := first|omega|(simp only[ln];omega)) [k1, k2]) (by simp) ?_
      simp only [updo]
      refine DP.fcall (c2) rfl rfl rfl hb80 (by simp (disch := first|omega|(simp only[ln];omega)) [idf_Wd', k1, k2, idf_numS, cells_numS, numS_fold, idf_numI, cells_numI, numI_fold, Sp.av, Sp.cells, Sg.av, Sg.cells, Pt.av, Pt.cells]) (by simp (disch := first|omega|(simp only[ln];omega)) [k1, k2]) (by simp) ?_
      simp only [updo]
      refine DP.runFk 5 (by simp (disch := first|omega|(simp only[ln];omega)) [runDf.eq_def, runF1, runF2, stepF.eq_def, updo.eq_def, hupo.eq_def, opSto1.eq_def, List.take_succ_cons, List.take_zero, idf_Wd', idf_numS, cells_numS, numS_fold, idf_numI, cells_numI, numI_fold, Sp.av, Sp.cells, Sg.av, Sg.cells, Pt.av, Pt.cells, k1, k2]; rfl) fun fs13 hfs13 => ?_
      replace hfs13 : fs13.length = 5 := hfs13.trans rfl
      simp only [List.drop_succ_cons, List.drop_zero]
      refine DP.fcall (sideOfI_fc s p gs hp) rfl rfl rfl hb121 (by simp (disch := first|omega|(simp only[ln];omega)) [idf_Wd', k1, k2, idf_numS, cells_numS, numS_fold, idf_numI, cells_numI, numI_fold, Sp.av, Sp.cells, Sg.av, Sg.cells, Pt.av, Pt.cells]) (by simp (disch := first|omega|(simp only[ln];omega)) [k1, k2]) (by simp) ?_
      simp only [updo]
      refine DP.runFk 2 (by simp (disch := first|omega|(simp only[ln];omega)) [runDf.eq_def, runF1, runF2, stepF.eq_def, updo.eq_def, hupo.eq_def, opSto1.eq_def, List.take_succ_cons, List.take_zero, idf_Wd', idf_numS, cells_numS, numS_fold, idf_numI, cells_numI, numI_fold, Sp.av, Sp.cells, Sg.av, Sg.cells, Pt.av, Pt.cells, k1, k2]; rfl) fun fs14 hfs14 => ?_
      replace hfs14 : fs14.length = 2 := hfs14.trans rfl
      simp only [List.drop_succ_cons, List.drop_zero]
      refine DQ.runF (m := 20) (by simp only [List.length_append, List.length_cons, List.length_nil, hfs10, hfs11, hfs12, hfs13, hfs14]; omega) _ _ _ (by kernel_rfl) rfl (by simp (disch := first|omega|(simp only[ln];omega)) [runDf.eq_def, runF1, runF2, stepF.eq_def, updo.eq_def, hupo.eq_def, opSto1.eq_def, idf_Wd', idf_numS, cells_numS, numS_fold, idf_numI, cells_numI, numI_fold, Sp.av, Sp.cells, Sg.av, Sg.cells, Pt.av, Pt.cells, k1, k2]; rfl) ?_
      refine hK2 _ ?_
      refine AWP.ret ?_
      exact hK _ _ _ _ trivial ((Fin.mk (r := .bool (sdF s p == 0)) (by simp [aRes, aResL, aRes1, idf_Wd', idf_numS, cells_numS, numS_fold, idf_numI, cells_numI, numI_fold, Sp.av, Sp.cells, Sg.av, Sg.cells, Pt.av, Pt.cells]; try rfl)).cast (by unfold onF; rw [k1, k2]; rfl))

set_option maxHeartbeats 2000000 in
theorem onSegF_fc (s : Sg) (p : Pt) (hp : p.ok) : FC Try.prog 43 [s.av, p.av] (.bool (onSF s p)) := by
  refine FC.body Try.func43 rfl (by simp [idfL, idf, Sp.av, Sp.cells, Sg.av, Sg.cells, Pt.av, Pt.cells]) (by simp [idfL, idf, idfLL_iff, idf_Wd', idf_numS, cells_numS, numS_fold, idf_numI, cells_numI, numI_fold, Sp.av, Sp.cells, Sg.av, Sg.cells, Pt.av, Pt.cells]) 16 rfl fun nx K hK => ?_
  refine AWP.seqk fun K1 hK1 => ?_
  refine AWP.region (AOPS.all (by simp (disch := first|omega|(simp only[ln];omega)) [idf_Wd', idf_numS, cells_numS, numS_fold, idf_numI, cells_numI, numI_fold, Sp.av, Sp.cells, Sg.av, Sg.cells, Pt.av, Pt.cells]; rfl) ?_)
  refine hK1 _ ?_
  refine AWP.seqk fun K2 hK2 => ?_
  cases gs : s.good
  · refine AWP.region ?_
    refine AOPS.runk 1 (by simp (disch := first|omega|(simp only[ln];omega)) [List.take_succ_cons, List.take_zero, idf_Wd', idf_numS, cells_numS, numS_fold, idf_numI, cells_numI, numI_fold, Sp.av, Sp.cells, Sg.av, Sg.cells, Pt.av, Pt.cells, gs]; rfl) ?_
    simp only [List.drop_succ_cons, List.drop_zero]
    refine AOPS.fcall (segOkI_fc s) rfl rfl rfl hb48 (by simp (disch := first|omega|(simp only[ln];omega)) [idf_Wd', gs, idf_numS, cells_numS, numS_fold, idf_numI, cells_numI, numI_fold, Sp.av, Sp.cells, Sg.av, Sg.cells, Pt.av, Pt.cells]) (by simp (disch := first|omega|(simp only[ln];omega)) [gs]) (by simp) ?_
    simp only [puts_some, updo]
    refine AOPS.all (by simp (disch := first|omega|(simp only[ln];omega)) [idf_Wd', idf_numS, cells_numS, numS_fold, idf_numI, cells_numI, numI_fold, Sp.av, Sp.cells, Sg.av, Sg.cells, Pt.av, Pt.cells, gs]; rfl) ?_
    refine hK2 _ ?_
    refine AWP.ret ?_
    exact hK _ _ _ _ trivial ((Fin.mk (by simp [aRes, aResL, aRes1, idf_Wd', idf_numS, cells_numS, numS_fold, idf_numI, cells_numI, numI_fold, Sp.av, Sp.cells, Sg.av, Sg.cells, Pt.av, Pt.cells]; try rfl)).cast (by unfold onSF; rw [gs]; rfl))
  · cases gp : p.good
    · refine AWP.region ?_
      refine AOPS.runk 1 (by simp (disch := first|omega|(simp only[ln];omega)) [List.take_succ_cons, List.take_zero, idf_Wd', idf_numS, cells_numS, numS_fold, idf_numI, cells_numI, numI_fold, Sp.av, Sp.cells, Sg.av, Sg.cells, Pt.av, Pt.cells, gs, gp]; rfl) ?_
      simp only [List.drop_succ_cons, List.drop_zero]
      refine AOPS.fcall (segOkI_fc s) rfl rfl rfl hb48 (by simp (disch := first|omega|(simp only[ln];omega)) [idf_Wd', gs, gp, idf_numS, cells_numS, numS_fold, idf_numI, cells_numI, numI_fold, Sp.av, Sp.cells, Sg.av, Sg.cells, Pt.av, Pt.cells]) (by simp (disch := first|omega|(simp only[ln];omega)) [gs, gp]) (by simp) ?_
      simp only [puts_some, updo]
      refine AOPS.runk 2 (by simp (disch := first|omega|(simp only[ln];omega)) [List.take_succ_cons, List.take_zero, idf_Wd', idf_numS, cells_numS, numS_fold, idf_numI, cells_numI, numI_fold, Sp.av, Sp.cells, Sg.av, Sg.cells, Pt.av, Pt.cells, gs, gp]; rfl) ?_
      simp only [List.drop_succ_cons, List.drop_zero]
      refine AOPS.fcall (pointOkI_fc p hp) rfl rfl rfl hb19 (by simp (disch := first|omega|(simp only[ln];omega)) [idf_Wd', gs, gp, idf_numS, cells_numS, numS_fold, idf_numI, cells_numI, numI_fold, Sp.av, Sp.cells, Sg.av, Sg.cells, Pt.av, Pt.cells]) (by simp (disch := first|omega|(simp only[ln];omega)) [gs, gp]) (by simp) ?_
      simp only [puts_some, updo]
      refine AOPS.all (by simp (disch := first|omega|(simp only[ln];omega)) [idf_Wd', idf_numS, cells_numS, numS_fold, idf_numI, cells_numI, numI_fold, Sp.av, Sp.cells, Sg.av, Sg.cells, Pt.av, Pt.cells, gs, gp]; rfl) ?_
      refine hK2 _ ?_
      refine AWP.ret ?_
      exact hK _ _ _ _ trivial ((Fin.mk (by simp [aRes, aResL, aRes1, idf_Wd', idf_numS, cells_numS, numS_fold, idf_numI, cells_numI, numI_fold, Sp.av, Sp.cells, Sg.av, Sg.cells, Pt.av, Pt.cells]; try rfl)).cast (by unfold onSF; rw [gs, gp]; rfl))
    · refine AWP.region ?_
      refine AOPS.runk 1 (by simp (disch := first|omega|(simp only[ln];omega)) [List.take_succ_cons, List.take_zero, idf_Wd', idf_numS, cells_numS, numS_fold, idf_numI, cells_numI, numI_fold, Sp.av, Sp.cells, Sg.av, Sg.cells, Pt.av, Pt.cells, gs, gp]; rfl) ?_
      simp only [List.drop_succ_cons, List.drop_zero]
      refine AOPS.fcall (segOkI_fc s) rfl rfl rfl hb48 (by simp (disch := first|omega|(simp only[ln];omega)) [idf_Wd', gs, gp, idf_numS, cells_numS, numS_fold, idf_numI, cells_numI, numI_fold, Sp.av, Sp.cells, Sg.av, Sg.cells, Pt.av, Pt.cells]) (by simp (disch := first|omega|(simp only[ln];omega)) [gs, gp]) (by simp) ?_
      simp only [puts_some, updo]
      refine AOPS.runk 2 (by simp (disch := first|omega|(simp only[ln];omega)) [List.take_succ_cons, List.take_zero, idf_Wd', idf_numS, cells_numS, numS_fold, idf_numI, cells_numI, numI_fold, Sp.av, Sp.cells, Sg.av, Sg.cells, Pt.av, Pt.cells, gs, gp]; rfl) ?_
      simp only [List.drop_succ_cons, List.drop_zero]
      refine AOPS.fcall (pointOkI_fc p hp) rfl rfl rfl hb19 (by simp (disch := first|omega|(simp only[ln];omega)) [idf_Wd', gs, gp, idf_numS, cells_numS, numS_fold, idf_numI, cells_numI, numI_fold, Sp.av, Sp.cells, Sg.av, Sg.cells, Pt.av, Pt.cells]) (by simp (disch := first|omega|(simp only[ln];omega)) [gs, gp]) (by simp) ?_
      simp only [puts_some, updo]
      refine AOPS.runk 4 (by simp (disch := first|omega|(simp only[ln];omega)) [List.take_succ_cons, List.take_zero, idf_Wd', idf_numS, cells_numS, numS_fold, idf_numI, cells_numI, numI_fold, Sp.av, Sp.cells, Sg.av, Sg.cells, Pt.av, Pt.cells, gs, gp]; rfl) ?_
      simp only [List.drop_succ_cons, List.drop_zero]
      refine AOPS.fcall (onSegI_fc s p gs hp) rfl rfl rfl hb127 (by simp (disch := first|omega|(simp only[ln];omega)) [idf_Wd', gs, gp, idf_numS, cells_numS, numS_fold, idf_numI, cells_numI, numI_fold, Sp.av, Sp.cells, Sg.av, Sg.cells, Pt.av, Pt.cells]) (by simp (disch := first|omega|(simp only[ln];omega)) [gs, gp]) (by simp) ?_
      simp only [puts_some, updo]
      refine AOPS.all (by simp (disch := first|omega|(simp only[ln];omega)) [idf_Wd', idf_numS, cells_numS, numS_fold, idf_numI, cells_numI, numI_fold, Sp.av, Sp.cells, Sg.av, Sg.cells, Pt.av, Pt.cells, gs, gp]; rfl) ?_
      refine hK2 _ ?_
      refine AWP.ret ?_
      exact hK _ _ _ _ trivial ((Fin.mk (by simp [aRes, aResL, aRes1, idf_Wd', idf_numS, cells_numS, numS_fold, idf_numI, cells_numI, numI_fold, Sp.av, Sp.cells, Sg.av, Sg.cells, Pt.av, Pt.cells]; try rfl)).cast (by unfold onSF; rw [gs, gp]; rfl))

set_option maxHeartbeats 2000000 in
theorem sideOf_fc (s : Sg) (p : Pt) (hp : p.ok) : FC Try.prog 44 [s.av, p.av] (.int .i64 (siF s p)) := by
  refine FC.body Try.func44 rfl (by simp [idfL, idf, Sp.av, Sp.cells, Sg.av, Sg.cells, Pt.av, Pt.cells]) (by simp [idfL, idf, idfLL_iff, idf_Wd', idf_numS, cells_numS, numS_fold, idf_numI, cells_numI, numI_fold, Sp.av, Sp.cells, Sg.av, Sg.cells, Pt.av, Pt.cells]) 16 rfl fun nx K hK => ?_
  refine AWP.seqk fun K1 hK1 => ?_
  refine AWP.region (AOPS.all (by simp (disch := first|omega|(simp only[ln];omega)) [idf_Wd', idf_numS, cells_numS, numS_fold, idf_numI, cells_numI, numI_fold, Sp.av, Sp.cells, Sg.av, Sg.cells, Pt.av, Pt.cells]; rfl) ?_)
  refine hK1 _ ?_
  refine AWP.seqk fun K2 hK2 => ?_
  refine AWP.seqk fun K3 hK3 => ?_
  cases gs : s.good
  · refine AWP.region ?_
    refine AOPS.runk 1 (by simp (disch := first|omega|(simp only[ln];omega)) [List.take_succ_cons, List.take_zero, idf_Wd', idf_numS, cells_numS, numS_fold, idf_numI, cells_numI, numI_fold, Sp.av, Sp.cells, Sg.av, Sg.cells, Pt.av, Pt.cells, gs]; rfl) ?_
    simp only [List.drop_succ_cons, List.drop_zero]
    refine AOPS.fcall (segOkI_fc s) rfl rfl rfl hb48 (by simp (disch := first|omega|(simp only[ln];omega)) [idf_Wd', gs, idf_numS, cells_numS, numS_fold, idf_numI, cells_numI, numI_fold, Sp.av, Sp.cells, Sg.av, Sg.cells, Pt.av, Pt.cells]) (by simp (disch := first|omega|(simp only[ln];omega)) [gs]) (by simp) ?_
    simp only [puts_some, updo]
    refine AOPS.all (by simp (disch := first|omega|(simp only[ln];omega)) [idf_Wd', idf_numS, cells_numS, numS_fold, idf_numI, cells_numI, numI_fold, Sp.av, Sp.cells, Sg.av, Sg.cells, Pt.av, Pt.cells, gs]; rfl) ?_
    refine hK3 _ ?_
    refine cond_ok _ (by simp (disch := first|omega|(simp only[ln];omega)); rfl) (fun h12 => ?_) (fun h12 => ?_)
    · try simp only [decide_eq_true_eq, decide_eq_false_iff_not] at h12
      refine AWP.seqk fun K4 hK4 => ?_
      refine AWP.region (AOPS.all (by simp (disch := first|omega|(simp only[ln];omega)) [idf_Wd', idf_numS, cells_numS, numS_fold, idf_numI, cells_numI, numI_fold, Sp.av, Sp.cells, Sg.av, Sg.cells, Pt.av, Pt.cells]; rfl) ?_)
      refine hK4 _ ?_
      refine AWP.ret ?_
      exact hK _ _ _ _ trivial ((Fin.mk (by simp [aRes, aResL, aRes1, idf_Wd', idf_numS, cells_numS, numS_fold, idf_numI, cells_numI, numI_fold, Sp.av, Sp.cells, Sg.av, Sg.cells, Pt.av, Pt.cells]; try rfl)).cast (by unfold siF; simp [*]))
    · simp at h12
  · cases gp : p.good
    · refine AWP.region ?_
      refine AOPS.runk 1 (by simp (disch := first|omega|(simp only[ln];omega)) [List.take_succ_cons, List.take_zero, idf_Wd', idf_numS, cells_numS, numS_fold, idf_numI, cells_numI, numI_fold, Sp.av, Sp.cells, Sg.av, Sg.cells, Pt.av, Pt.cells, gs, gp]; rfl) ?_
      simp only [List.drop_succ_cons, List.drop_zero]
      refine AOPS.fcall (segOkI_fc s) rfl rfl rfl hb48 (by simp (disch := first|omega|(simp only[ln];omega)) [idf_Wd', gs, gp, idf_numS, cells_numS, numS_fold, idf_numI, cells_numI, numI_fold, Sp.av, Sp.cells, Sg.av, Sg.cells, Pt.av, Pt.cells]) (by simp (disch := first|omega|(simp only[ln];omega)) [gs, gp]) (by simp) ?_
      simp only [puts_some, updo]
      refine AOPS.runk 3 (by simp (disch := first|omega|(simp only[ln];omega)) [List.take_succ_cons, List.take_zero, idf_Wd', idf_numS, cells_numS, numS_fold, idf_numI, cells_numI, numI_fold, Sp.av, Sp.cells, Sg.av, Sg.cells, Pt.av, Pt.cells, gs, gp]; rfl) ?_
      simp only [List.drop_succ_cons, List.drop_zero]
      refine AOPS.fcall (pointOkI_fc p hp) rfl rfl rfl hb19 (by simp (disch := first|omega|(simp only[ln];omega)) [idf_Wd', gs, gp, idf_numS, cells_numS, numS_fold, idf_numI, cells_numI, numI_fold, Sp.av, Sp.cells, Sg.av, Sg.cells, Pt.av, Pt.cells]) (by simp (disch := first|omega|(simp only[ln];omega)) [gs, gp]) (by simp) ?_
      simp only [puts_some, updo]
      refine AOPS.all (by simp (disch := first|omega|(simp only[ln];omega)) [idf_Wd', idf_numS, cells_numS, numS_fold, idf_numI, cells_numI, numI_fold, Sp.av, Sp.cells, Sg.av, Sg.cells, Pt.av, Pt.cells, gs, gp]; rfl) ?_
      refine hK3 _ ?_
      refine cond_ok _ (by simp (disch := first|omega|(simp only[ln];omega)); rfl) (fun h12 => ?_) (fun h12 => ?_)
      · try simp only [decide_eq_true_eq, decide_eq_false_iff_not] at h12
        refine AWP.seqk fun K5 hK5 => ?_
        refine AWP.region (AOPS.all (by simp (disch := first|omega|(simp only[ln];omega)) [idf_Wd', idf_numS, cells_numS, numS_fold, idf_numI, cells_numI, numI_fold, Sp.av, Sp.cells, Sg.av, Sg.cells, Pt.av, Pt.cells]; rfl) ?_)
        refine hK5 _ ?_
        refine AWP.ret ?_
        exact hK _ _ _ _ trivial ((Fin.mk (by simp [aRes, aResL, aRes1, idf_Wd', idf_numS, cells_numS, numS_fold, idf_numI, cells_numI, numI_fold, Sp.av, Sp.cells, Sg.av, Sg.cells, Pt.av, Pt.cells]; try rfl)).cast (by unfold siF; simp [*]))
      · simp at h12
    · refine AWP.region ?_
      refine AOPS.runk 1 (by simp (disch := first|omega|(simp only[ln];omega)) [List.take_succ_cons, List.take_zero, idf_Wd', idf_numS, cells_numS, numS_fold, idf_numI, cells_numI, numI_fold, Sp.av, Sp.cells, Sg.av, Sg.cells, Pt.av, Pt.cells, gs, gp]; rfl) ?_
      simp only [List.drop_succ_cons, List.drop_zero]
      refine AOPS.fcall (segOkI_fc s) rfl rfl rfl hb48 (by simp (disch := first|omega|(simp only[ln];omega)) [idf_Wd', gs, gp, idf_numS, cells_numS, numS_fold, idf_numI, cells_numI, numI_fold, Sp.av, Sp.cells, Sg.av, Sg.cells, Pt.av, Pt.cells]) (by simp (disch := first|omega|(simp only[ln];omega)) [gs, gp]) (by simp) ?_
      simp only [puts_some, updo]
      refine AOPS.runk 3 (by simp (disch := first|omega|(simp only[ln];omega)) [List.take_succ_cons, List.take_zero, idf_Wd', idf_numS, cells_numS, numS_fold, idf_numI, cells_numI, numI_fold, Sp.av, Sp.cells, Sg.av, Sg.cells, Pt.av, Pt.cells, gs, gp]; rfl) ?_
      simp only [List.drop_succ_cons, List.drop_zero]
      refine AOPS.fcall (pointOkI_fc p hp) rfl rfl rfl hb19 (by simp (disch := first|omega|(simp only[ln];omega)) [idf_Wd', gs, gp, idf_numS, cells_numS, numS_fold, idf_numI, cells_numI, numI_fold, Sp.av, Sp.cells, Sg.av, Sg.cells, Pt.av, Pt.cells]) (by simp (disch := first|omega|(simp only[ln];omega)) [gs, gp]) (by simp) ?_
      simp only [puts_some, updo]
      refine AOPS.all (by simp (disch := first|omega|(simp only[ln];omega)) [idf_Wd', idf_numS, cells_numS, numS_fold, idf_numI, cells_numI, numI_fold, Sp.av, Sp.cells, Sg.av, Sg.cells, Pt.av, Pt.cells, gs, gp]; rfl) ?_
      refine hK3 _ ?_
      refine cond_ok _ (by simp (disch := first|omega|(simp only[ln];omega)); rfl) (fun h12 => ?_) (fun h12 => ?_)
      · simp at h12
      · try simp only [decide_eq_true_eq, decide_eq_false_iff_not] at h12
        refine AWP.skip ?_
        refine hK2 _ ?_
        refine AWP.seqk fun K6 hK6 => ?_
        refine AWP.region ?_
        refine AOPS.runk 2 (by simp (disch := first|omega|(simp only[ln];omega)) [List.take_succ_cons, List.take_zero, idf_Wd', idf_numS, cells_numS, numS_fold, idf_numI, cells_numI, numI_fold, Sp.av, Sp.cells, Sg.av, Sg.cells, Pt.av, Pt.cells]; rfl) ?_
        simp only [List.drop_succ_cons, List.drop_zero]
        refine AOPS.fcall (sideOfI_fc s p gs hp) rfl rfl rfl hb121 (by simp (disch := first|omega|(simp only[ln];omega)) [idf_Wd', idf_numS, cells_numS, numS_fold, idf_numI, cells_numI, numI_fold, Sp.av, Sp.cells, Sg.av, Sg.cells, Pt.av, Pt.cells]) (by simp (disch := first|omega|(simp only[ln];omega))) (by simp) ?_
        simp only [puts_some, updo]
        refine AOPS.all (by simp (disch := first|omega|(simp only[ln];omega)) [idf_Wd', idf_numS, cells_numS, numS_fold, idf_numI, cells_numI, numI_fold, Sp.av, Sp.cells, Sg.av, Sg.cells, Pt.av, Pt.cells]; rfl) ?_
        refine hK6 _ ?_
        refine AWP.ret ?_
        exact hK _ _ _ _ trivial ((Fin.mk (by simp [aRes, aResL, aRes1, idf_Wd', idf_numS, cells_numS, numS_fold, idf_numI, cells_numI, numI_fold, Sp.av, Sp.cells, Sg.av, Sg.cells, Pt.av, Pt.cells]; try rfl)).cast (by rw [sideEq gs gp]))

set_option maxHeartbeats 4000000 in
theorem overAtI_fc (s : Sg) (p : Pt) (hp : p.ok) : FC Try.prog 41 [s.av, p.av] (.int .i64 (ovF s p)) := by
  refine FC.body Try.func41 rfl (by simp [idfL, idf, Sp.av, Sp.cells, Sg.av, Sg.cells, Pt.av, Pt.cells]) (by simp [idfL, idf, idfLL_iff, idf_Wd', idf_numS, cells_numS, numS_fold, idf_numI, cells_numI, numI_fold, Sp.av, Sp.cells, Sg.av, Sg.cells, Pt.av, Pt.cells, spA, spC, numC]) 81 rfl fun nx K hK => ?_
  refine AWP.seqk fun K1 hK1 => ?_
  refine AWP.region (AOPS.all (by simp (disch := first|omega|(simp only[ln];omega)) [idf_Wd', idf_numS, cells_numS, numS_fold, idf_numI, cells_numI, numI_fold, Sp.av, Sp.cells, Sg.av, Sg.cells, Pt.av, Pt.cells, spA, spC, numC]; rfl) ?_)
  refine hK1 _ ?_
  refine AWP.seqk fun K2 hK2 => ?_
  refine AWP.seqk fun K3 hK3 => ?_
  cases gs : s.good
  · refine AWP.region ?_
    refine AOPS.runk 1 (by simp (disch := first|omega|(simp only[ln];omega)) [List.take_succ_cons, List.take_zero, idf_Wd', idf_numS, cells_numS, numS_fold, idf_numI, cells_numI, numI_fold, Sp.av, Sp.cells, Sg.av, Sg.cells, Pt.av, Pt.cells, spA, spC, numC, gs]; rfl) ?_
    simp only [List.drop_succ_cons, List.drop_zero]
    refine AOPS.fcall (segOkI_fc s) rfl rfl rfl hb48 (by simp (disch := first|omega|(simp only[ln];omega)) [idf_Wd', gs, idf_numS, cells_numS, numS_fold, idf_numI, cells_numI, numI_fold, Sp.av, Sp.cells, Sg.av, Sg.cells, Pt.av, Pt.cells, spA, spC, numC]) (by simp (disch := first|omega|(simp only[ln];omega)) [gs]) (by simp) ?_
    simp only [puts_some, updo]
    refine AOPS.all (by simp (disch := first|omega|(simp only[ln];omega)) [idf_Wd', idf_numS, cells_numS, numS_fold, idf_numI, cells_numI, numI_fold, Sp.av, Sp.cells, Sg.av, Sg.cells, Pt.av, Pt.cells, spA, spC, numC, gs]; rfl) ?_
    refine hK3 _ ?_
    refine cond_ok _ (by simp (disch := first|omega|(simp only[ln];omega)); rfl) (fun h15 => ?_) (fun h15 => ?_)
    · try simp only [decide_eq_true_eq, decide_eq_false_iff_not] at h15
      refine AWP.seqk fun K4 hK4 => ?_
      refine AWP.region (AOPS.all (by simp (disch := first|omega|(simp only[ln];omega)) [idf_Wd', idf_numS, cells_numS, numS_fold, idf_numI, cells_numI, numI_fold, Sp.av, Sp.cells, Sg.av, Sg.cells, Pt.av, Pt.cells, spA, spC, numC]; rfl) ?_)
      refine hK4 _ ?_
      refine AWP.ret ?_
      exact hK _ _ _ _ trivial ((Fin.mk (by simp [aRes, aResL, aRes1, idf_Wd', idf_numS, cells_numS, numS_fold, idf_numI, cells_numI, numI_fold, Sp.av, Sp.cells, Sg.av, Sg.cells, Pt.av, Pt.cells, spA, spC, numC]; try rfl)).cast (by unfold ovF; simp [*]))
    · simp at h15
  · cases gp : p.good
    · refine AWP.region ?_
      refine AOPS.runk 1 (by simp (disch := first|omega|(simp only[ln];omega)) [List.take_succ_cons, List.take_zero, idf_Wd', idf_numS, cells_numS, numS_fold, idf_numI, cells_numI, numI_fold, Sp.av, Sp.cells, Sg.av, Sg.cells, Pt.av, Pt.cells, spA, spC, numC, gs, gp]; rfl) ?_
      simp only [List.drop_succ_cons, List.drop_zero]
      refine AOPS.fcall (segOkI_fc s) rfl rfl rfl hb48 (by simp (disch := first|omega|(simp only[ln];omega)) [idf_Wd', gs, gp, idf_numS, cells_numS, numS_fold, idf_numI, cells_numI, numI_fold, Sp.av, Sp.cells, Sg.av, Sg.cells, Pt.av, Pt.cells, spA, spC, numC]) (by simp (disch := first|omega|(simp only[ln];omega)) [gs, gp]) (by simp) ?_
      simp only [puts_some, updo]
      refine AOPS.runk 3 (by simp (disch := first|omega|(simp only[ln];omega)) [List.take_succ_cons, List.take_zero, idf_Wd', idf_numS, cells_numS, numS_fold, idf_numI, cells_numI, numI_fold, Sp.av, Sp.cells, Sg.av, Sg.cells, Pt.av, Pt.cells, spA, spC, numC, gs, gp]; rfl) ?_
      simp only [List.drop_succ_cons, List.drop_zero]
      refine AOPS.fcall (pointOkI_fc p hp) rfl rfl rfl hb19 (by simp (disch := first|omega|(simp only[ln];omega)) [idf_Wd', gs, gp, idf_numS, cells_numS, numS_fold, idf_numI, cells_numI, numI_fold, Sp.av, Sp.cells, Sg.av, Sg.cells, Pt.av, Pt.cells, spA, spC, numC]) (by simp (disch := first|omega|(simp only[ln];omega)) [gs, gp]) (by simp) ?_
      simp only [puts_some, updo]
      refine AOPS.all (by simp (disch := first|omega|(simp only[ln];omega)) [idf_Wd', idf_numS, cells_numS, numS_fold, idf_numI, cells_numI, numI_fold, Sp.av, Sp.cells, Sg.av, Sg.cells, Pt.av, Pt.cells, spA, spC, numC, gs, gp]; rfl) ?_
      refine hK3 _ ?_
      refine cond_ok _ (by simp (disch := first|omega|(simp only[ln];omega)); rfl) (fun h15 => ?_) (fun h15 => ?_)
      · try simp only [decide_eq_true_eq, decide_eq_false_iff_not] at h15
        refine AWP.seqk fun K5 hK5 => ?_
        refine AWP.region (AOPS.all (by simp (disch := first|omega|(simp only[ln];omega)) [idf_Wd', idf_numS, cells_numS, numS_fold, idf_numI, cells_numI, numI_fold, Sp.av, Sp.cells, Sg.av, Sg.cells, Pt.av, Pt.cells, spA, spC, numC]; rfl) ?_)
        refine hK5 _ ?_
        refine AWP.ret ?_
        exact hK _ _ _ _ trivial ((Fin.mk (by simp [aRes, aResL, aRes1, idf_Wd', idf_numS, cells_numS, numS_fold, idf_numI, cells_numI, numI_fold, Sp.av, Sp.cells, Sg.av, Sg.cells, Pt.av, Pt.cells, spA, spC, numC]; try rfl)).cast (by unfold ovF; simp [*]))
      · simp at h15
    · refine AWP.region ?_
      refine AOPS.runk 1 (by simp (disch := first|omega|(simp only[ln];omega)) [List.take_succ_cons, List.take_zero, idf_Wd', idf_numS, cells_numS, numS_fold, idf_numI, cells_numI, numI_fold, Sp.av, Sp.cells, Sg.av, Sg.cells, Pt.av, Pt.cells, spA, spC, numC, gs, gp]; rfl) ?_
      simp only [List.drop_succ_cons, List.drop_zero]
      refine AOPS.fcall (segOkI_fc s) rfl rfl rfl hb48 (by simp (disch := first|omega|(simp only[ln];omega)) [idf_Wd', gs, gp, idf_numS, cells_numS, numS_fold, idf_numI, cells_numI, numI_fold, Sp.av, Sp.cells, Sg.av, Sg.cells, Pt.av, Pt.cells, spA, spC, numC]) (by simp (disch := first|omega|(simp only[ln];omega)) [gs, gp]) (by simp) ?_
      simp only [puts_some, updo]
      refine AOPS.runk 3 (by simp (disch := first|omega|(simp only[ln];omega)) [List.take_succ_cons, List.take_zero, idf_Wd', idf_numS, cells_numS, numS_fold, idf_numI, cells_numI, numI_fold, Sp.av, Sp.cells, Sg.av, Sg.cells, Pt.av, Pt.cells, spA, spC, numC, gs, gp]; rfl) ?_
      simp only [List.drop_succ_cons, List.drop_zero]
      refine AOPS.fcall (pointOkI_fc p hp) rfl rfl rfl hb19 (by simp (disch := first|omega|(simp only[ln];omega)) [idf_Wd', gs, gp, idf_numS, cells_numS, numS_fold, idf_numI, cells_numI, numI_fold, Sp.av, Sp.cells, Sg.av, Sg.cells, Pt.av, Pt.cells, spA, spC, numC]) (by simp (disch := first|omega|(simp only[ln];omega)) [gs, gp]) (by simp) ?_
      simp only [puts_some, updo]
      refine AOPS.all (by simp (disch := first|omega|(simp only[ln];omega)) [idf_Wd', idf_numS, cells_numS, numS_fold, idf_numI, cells_numI, numI_fold, Sp.av, Sp.cells, Sg.av, Sg.cells, Pt.av, Pt.cells, spA, spC, numC, gs, gp]; rfl) ?_
      refine hK3 _ ?_
      refine cond_ok _ (by simp (disch := first|omega|(simp only[ln];omega)); rfl) (fun h15 => ?_) (fun h15 => ?_)
      · simp at h15
      · try simp only [decide_eq_true_eq, decide_eq_false_iff_not] at h15
        refine AWP.skip ?_
        refine hK2 _ ?_
        refine AWP.seqk fun K6 hK6 => ?_
        obtain ⟨ax0, ax1, ay0, ay1⟩ := Sp.b (good_a gs)
        obtain ⟨bx0, bx1, by0, by1⟩ := Sp.b (good_b gs)
        have pX := W4.bg hp.1
        have pY := W4.bg hp.2.1
        have pW := W4.bg hp.2.2
        have aX : Bg 1 s.a.x := Bg.i64 (by omega) (by omega)
        have aY : Bg 1 s.a.y := Bg.i64 (by omega) (by omega)
        have bX : Bg 1 s.b.x := Bg.i64 (by omega) (by omega)
        have bY : Bg 1 s.b.y := Bg.i64 (by omega) (by omega)
        have dX' : Bg 1 (s.b.x - s.a.x) := Bg.i64 (by omega) (by omega)
        have dY' : Bg 1 (s.b.y - s.a.y) := Bg.i64 (by omega) (by omega)
        refine AWP.region ?_
        refine AOPS.runk 1 (by simp (disch := first|omega|(simp only[ln];omega)) [List.take_succ_cons, List.take_zero, idf_Wd', idf_numS, cells_numS, numS_fold, idf_numI, cells_numI, numI_fold, Sp.av, Sp.cells, Sg.av, Sg.cells, Pt.av, Pt.cells, spA, spC, numC]; rfl) ?_
        simp only [List.drop_succ_cons, List.drop_zero]
        refine AOPS.fcall (spot_fc p hp) rfl rfl rfl hb84 (by simp (disch := first|omega|(simp only[ln];omega)) [idf_Wd', idf_numS, cells_numS, numS_fold, idf_numI, cells_numI, numI_fold, Sp.av, Sp.cells, Sg.av, Sg.cells, Pt.av, Pt.cells, spA, spC, numC]) (by simp (disch := first|omega|(simp only[ln];omega))) (by simp) ?_
        simp only [puts_some, updo]
        refine AOPS.all (by simp (disch := first|omega|(simp only[ln];omega)) [idf_Wd', idf_numS, cells_numS, numS_fold, idf_numI, cells_numI, numI_fold, Sp.av, Sp.cells, Sg.av, Sg.cells, Pt.av, Pt.cells, spA, spC, numC]; rfl) ?_
        refine hK6 _ ?_
        refine AWP.seqk fun K7 hK7 => ?_
        have k1 : FC Try.prog 88 [numI p.x.v, numI (s.a.x * p.w.v)] (.int .i64 (ovX s.a p)) := cmp_fc pX (aX.mul pW) (by omega) (by omega)
        have k2 : FC Try.prog 88 [numI p.x.v, numI (s.b.x * p.w.v)] (.int .i64 (ovX s.b p)) := cmp_fc pX (bX.mul pW) (by omega) (by omega)
        have k3 : FC Try.prog 88 [numI p.y.v, numI (s.a.y * p.w.v)] (.int .i64 (ovY s.a p)) := cmp_fc pY (aY.mul pW) (by omega) (by omega)
        have k4 : FC Try.prog 88 [numI p.y.v, numI (s.b.y * p.w.v)] (.int .i64 (ovY s.b p)) := cmp_fc pY (bY.mul pW) (by omega) (by omega)
        have sb := sdF_b s p
        have eo := ovEq gs gp
        have eI : ovI s p = if ovX s.a p < 0 ∨ 0 < ovX s.b p then 2 else if s.a.x < s.b.x then -(sdF s p) else if ovY s.a p < 0 then 1 else if 0 < ovY s.b p then -1 else 0 := rfl
        rw [← eo] at eI
        generalize ovF s p = V at *
        generalize ovX s.a p = u1 at *
        generalize ovX s.b p = u2 at *
        generalize ovY s.a p = u3 at *
        generalize ovY s.b p = u4 at *
        refine AWP.draw 20 Try.checked.mixed (by kernel_rfl) (by simp) ?_
        simp only [List.take_succ_cons, List.take_zero, List.drop_succ_cons, List.drop_zero]
        refine DP.runFk 5 (by simp (disch := first|omega|(simp only[ln];omega)) [runDf.eq_def, runF1, runF2, stepF.eq_def, updo.eq_def, hupo.eq_def, opSto1.eq_def, List.take_succ_cons, List.take_zero, idf_Wd', idf_numS, cells_numS, numS_fold, idf_numI, cells_numI, numI_fold, Sp.av, Sp.cells, Sg.av, Sg.cells, Pt.av, Pt.cells, spA, spC, numC]; rfl) fun fs8 hfs8 => ?_
        replace hfs8 : fs8.length = 5 := hfs8.trans rfl
        simp only [List.drop_succ_cons, List.drop_zero]
        refine DP.fcall (whole_fc s.a.x (by omega) (by omega)) rfl rfl rfl hb89 (by simp (disch := first|omega|(simp only[ln];omega)) [idf_Wd', idf_numS, cells_numS, numS_fold, idf_numI, cells_numI, numI_fold, Sp.av, Sp.cells, Sg.av, Sg.cells, Pt.av, Pt.cells, spA, spC, numC]) (by simp (disch := first|omega|(simp only[ln];omega))) (by simp) ?_
        simp only [updo]
        refine DP.runFk 2 (by simp (disch := first|omega|(simp only[ln];omega)) [runDf.eq_def, runF1, runF2, stepF.eq_def, updo.eq_def, hupo.eq_def, opSto1.eq_def, List.take_succ_cons, List.take_zero, idf_Wd', idf_numS, cells_numS, numS_fold, idf_numI, cells_numI, numI_fold, Sp.av, Sp.cells, Sg.av, Sg.cells, Pt.av, Pt.cells, spA, spC, numC]; rfl) fun fs9 hfs9 => ?_
        replace hfs9 : fs9.length = 2 := hfs9.trans rfl
        simp only [List.drop_succ_cons, List.drop_zero]
        refine DP.fcall (by_fc aX pW (by omega) (by omega)) rfl rfl rfl hb92 (by simp (disch := first|omega|(simp only[ln];omega)) [idf_Wd', idf_numS, cells_numS, numS_fold, idf_numI, cells_numI, numI_fold, Sp.av, Sp.cells, Sg.av, Sg.cells, Pt.av, Pt.cells, spA, spC, numC]) (by simp (disch := first|omega|(simp only[ln];omega))) (by simp) ?_
        simp only [updo]
        refine DP.fcall (k1) rfl rfl rfl hb88 (by simp (disch := first|omega|(simp only[ln];omega)) [idf_Wd', idf_numS, cells_numS, numS_fold, idf_numI, cells_numI, numI_fold, Sp.av, Sp.cells, Sg.av, Sg.cells, Pt.av, Pt.cells, spA, spC, numC]) (by simp (disch := first|omega|(simp only[ln];omega))) (by simp) ?_
        simp only [updo]
        refine DP.runFk 5 (by simp (disch := first|omega|(simp only[ln];omega)) [runDf.eq_def, runF1, runF2, stepF.eq_def, updo.eq_def, hupo.eq_def, opSto1.eq_def, List.take_succ_cons, List.take_zero, idf_Wd', idf_numS, cells_numS, numS_fold, idf_numI, cells_numI, numI_fold, Sp.av, Sp.cells, Sg.av, Sg.cells, Pt.av, Pt.cells, spA, spC, numC]; rfl) fun fs10 hfs10 => ?_
        replace hfs10 : fs10.length = 5 := hfs10.trans rfl
        simp only [List.drop_succ_cons, List.drop_zero]
        refine DP.fcall (whole_fc s.b.x (by omega) (by omega)) rfl rfl rfl hb89 (by simp (disch := first|omega|(simp only[ln];omega)) [idf_Wd', idf_numS, cells_numS, numS_fold, idf_numI, cells_numI, numI_fold, Sp.av, Sp.cells, Sg.av, Sg.cells, Pt.av, Pt.cells, spA, spC, numC]) (by simp (disch := first|omega|(simp only[ln];omega))) (by simp) ?_
        simp only [updo]
        refine DP.runFk 2 (by simp (disch := first|omega|(simp only[ln];omega)) [runDf.eq_def, runF1, runF2, stepF.eq_def, updo.eq_def, hupo.eq_def, opSto1.eq_def, List.take_succ_cons, List.take_zero, idf_Wd', idf_numS, cells_numS, numS_fold, idf_numI, cells_numI, numI_fold, Sp.av, Sp.cells, Sg.av, Sg.cells, Pt.av, Pt.cells, spA, spC, numC]; rfl) fun fs11 hfs11 => ?_
        replace hfs11 : fs11.length = 2 := hfs11.trans rfl
        simp only [List.drop_succ_cons, List.drop_zero]
        refine DP.fcall (by_fc bX pW (by omega) (by omega)) rfl rfl rfl hb92 (by simp (disch := first|omega|(simp only[ln];omega)) [idf_Wd', idf_numS, cells_numS, numS_fold, idf_numI, cells_numI, numI_fold, Sp.av, Sp.cells, Sg.av, Sg.cells, Pt.av, Pt.cells, spA, spC, numC]) (by simp (disch := first|omega|(simp only[ln];omega))) (by simp) ?_
        simp only [updo]
        refine DP.fcall (k2) rfl rfl rfl hb88 (by simp (disch := first|omega|(simp only[ln];omega)) [idf_Wd', idf_numS, cells_numS, numS_fold, idf_numI, cells_numI, numI_fold, Sp.av, Sp.cells, Sg.av, Sg.cells, Pt.av, Pt.cells, spA, spC, numC]) (by simp (disch := first|omega|(simp only[ln];omega))) (by simp) ?_
        simp only [updo]
        refine DQ.runF (m := 20) (by simp only [List.length_append, List.length_cons, List.length_nil, hfs8, hfs9, hfs10, hfs11]; omega) _ _ _ (by kernel_rfl) rfl (by simp (disch := first|omega|(simp only[ln];omega)) [runDf.eq_def, runF1, runF2, stepF.eq_def, updo.eq_def, hupo.eq_def, opSto1.eq_def, idf_Wd', idf_numS, cells_numS, numS_fold, idf_numI, cells_numI, numI_fold, Sp.av, Sp.cells, Sg.av, Sg.cells, Pt.av, Pt.cells, spA, spC, numC]; rfl) ?_
        refine hK7 _ ?_
        refine AWP.seqk fun K12 hK12 => ?_
        refine AWP.block ?_
        refine AWP.seqk fun K13 hK13 => ?_
        by_cases q1 : u1 < 0
        · have d1 : decide (u1 < 0) = true := decide_eq_true q1
          refine AWP.region (AOPS.all (by simp (disch := first|omega|(simp only[ln];omega)) [idf_Wd', idf_numS, cells_numS, numS_fold, idf_numI, cells_numI, numI_fold, Sp.av, Sp.cells, Sg.av, Sg.cells, Pt.av, Pt.cells, spA, spC, numC, d1]; rfl) ?_)
          refine hK13 _ ?_
          refine cond_ok _ (by simp (disch := first|omega|(simp only[ln];omega)); rfl) (fun h38 => ?_) (fun h38 => ?_)
          · try simp only [decide_eq_true_eq, decide_eq_false_iff_not] at h38
            refine AWP.seqk fun K14 hK14 => ?_
            refine AWP.region (AOPS.all (by simp (disch := first|omega|(simp only[ln];omega)) [idf_Wd', idf_numS, cells_numS, numS_fold, idf_numI, cells_numI, numI_fold, Sp.av, Sp.cells, Sg.av, Sg.cells, Pt.av, Pt.cells, spA, spC, numC]; rfl) ?_)
            refine hK14 _ ?_
            refine AWP.ret ?_
            exact hK _ _ _ _ trivial ((Fin.mk (by simp [aRes, aResL, aRes1, idf_Wd', idf_numS, cells_numS, numS_fold, idf_numI, cells_numI, numI_fold, Sp.av, Sp.cells, Sg.av, Sg.cells, Pt.av, Pt.cells, spA, spC, numC]; try rfl)).cast (by rw [eI, if_pos (Or.inl q1)]))
          · simp at h38
        · have d1 : decide (u1 < 0) = false := decide_eq_false q1
          refine AWP.region (AOPS.all (by simp (disch := first|omega|(simp only[ln];omega)) [idf_Wd', idf_numS, cells_numS, numS_fold, idf_numI, cells_numI, numI_fold, Sp.av, Sp.cells, Sg.av, Sg.cells, Pt.av, Pt.cells, spA, spC, numC, d1]; rfl) ?_)
          refine hK13 _ ?_
          refine cond_ok (decide (0 < u2)) (by simp (disch := first|omega|(simp only[ln];omega))) (fun h38 => ?_) (fun h38 => ?_)
          · try simp only [decide_eq_true_eq, decide_eq_false_iff_not] at h38
            refine AWP.seqk fun K15 hK15 => ?_
            refine AWP.region (AOPS.all (by simp (disch := first|omega|(simp only[ln];omega)) [idf_Wd', idf_numS, cells_numS, numS_fold, idf_numI, cells_numI, numI_fold, Sp.av, Sp.cells, Sg.av, Sg.cells, Pt.av, Pt.cells, spA, spC, numC]; rfl) ?_)
            refine hK15 _ ?_
            refine AWP.ret ?_
            exact hK _ _ _ _ trivial ((Fin.mk (by simp [aRes, aResL, aRes1, idf_Wd', idf_numS, cells_numS, numS_fold, idf_numI, cells_numI, numI_fold, Sp.av, Sp.cells, Sg.av, Sg.cells, Pt.av, Pt.cells, spA, spC, numC]; try rfl)).cast (by rw [eI, if_pos (Or.inr h38)]))
          · try simp only [decide_eq_true_eq, decide_eq_false_iff_not] at h38
            have q2 : ¬ (u1 < 0 ∨ 0 < u2) := by omega
            rw [if_neg q2] at eI
            refine AWP.seqk fun K16 hK16 => ?_
            refine AWP.region (AOPS.all (by simp (disch := first|omega|(simp only[ln];omega)) [idf_Wd', idf_numS, cells_numS, numS_fold, idf_numI, cells_numI, numI_fold, Sp.av, Sp.cells, Sg.av, Sg.cells, Pt.av, Pt.cells, spA, spC, numC]; rfl) ?_)
            refine hK16 _ ?_
            refine cond_ok (decide (s.a.x < s.b.x)) (by simp (disch := first|omega|(simp only[ln];omega))) (fun h45 => ?_) (fun h45 => ?_)
            · try simp only [decide_eq_true_eq, decide_eq_false_iff_not] at h45
              rw [if_pos h45] at eI
              refine AWP.seqk fun K17 hK17 => ?_
              refine AWP.region ?_
              refine AOPS.runk 2 (by simp (disch := first|omega|(simp only[ln];omega)) [List.take_succ_cons, List.take_zero, idf_Wd', idf_numS, cells_numS, numS_fold, idf_numI, cells_numI, numI_fold, Sp.av, Sp.cells, Sg.av, Sg.cells, Pt.av, Pt.cells, spA, spC, numC]; rfl) ?_
              simp only [List.drop_succ_cons, List.drop_zero]
              refine AOPS.fcall (sideOfI_fc s p gs hp) rfl rfl rfl hb121 (by simp (disch := first|omega|(simp only[ln];omega)) [idf_Wd', idf_numS, cells_numS, numS_fold, idf_numI, cells_numI, numI_fold, Sp.av, Sp.cells, Sg.av, Sg.cells, Pt.av, Pt.cells, spA, spC, numC]) (by simp (disch := first|omega|(simp only[ln];omega))) (by simp) ?_
              simp only [puts_some, updo]
              refine AOPS.all (by simp (disch := first|omega|(simp only[ln];omega)) [idf_Wd', idf_numS, cells_numS, numS_fold, idf_numI, cells_numI, numI_fold, Sp.av, Sp.cells, Sg.av, Sg.cells, Pt.av, Pt.cells, spA, spC, numC]; rfl) ?_
              refine hK17 _ ?_
              refine AWP.ret ?_
              exact hK _ _ _ _ trivial ((Fin.mk (by simp [aRes, aResL, aRes1, idf_Wd', idf_numS, cells_numS, numS_fold, idf_numI, cells_numI, numI_fold, Sp.av, Sp.cells, Sg.av, Sg.cells, Pt.av, Pt.cells, spA, spC, numC]; try rfl)).cast (by rw [eI]))
            · try simp only [decide_eq_true_eq, decide_eq_false_iff_not] at h45
              rw [if_neg h45] at eI
              refine AWP.seqk fun K18 hK18 => ?_
              refine AWP.draw 11 Try.checked.mixed (by kernel_rfl) (by simp) ?_
              simp only [List.take_succ_cons, List.take_zero, List.drop_succ_cons, List.drop_zero]
              refine DP.runFk 5 (by simp (disch := first|omega|(simp only[ln];omega)) [runDf.eq_def, runF1, runF2, stepF.eq_def, updo.eq_def, hupo.eq_def, opSto1.eq_def, List.take_succ_cons, List.take_zero, idf_Wd', idf_numS, cells_numS, numS_fold, idf_numI, cells_numI, numI_fold, Sp.av, Sp.cells, Sg.av, Sg.cells, Pt.av, Pt.cells, spA, spC, numC]; rfl) fun fs19 hfs19 => ?_
              replace hfs19 : fs19.length = 5 := hfs19.trans rfl
              simp only [List.drop_succ_cons, List.drop_zero]
              refine DP.fcall (whole_fc s.a.y (by omega) (by omega)) rfl rfl rfl hb89 (by simp (disch := first|omega|(simp only[ln];omega)) [idf_Wd', idf_numS, cells_numS, numS_fold, idf_numI, cells_numI, numI_fold, Sp.av, Sp.cells, Sg.av, Sg.cells, Pt.av, Pt.cells, spA, spC, numC]) (by simp (disch := first|omega|(simp only[ln];omega))) (by simp) ?_
              simp only [updo]
              refine DP.runFk 2 (by simp (disch := first|omega|(simp only[ln];omega)) [runDf.eq_def, runF1, runF2, stepF.eq_def, updo.eq_def, hupo.eq_def, opSto1.eq_def, List.take_succ_cons, List.take_zero, idf_Wd', idf_numS, cells_numS, numS_fold, idf_numI, cells_numI, numI_fold, Sp.av, Sp.cells, Sg.av, Sg.cells, Pt.av, Pt.cells, spA, spC, numC]; rfl) fun fs20 hfs20 => ?_
              replace hfs20 : fs20.length = 2 := hfs20.trans rfl
              simp only [List.drop_succ_cons, List.drop_zero]
              refine DP.fcall (by_fc aY pW (by omega) (by omega)) rfl rfl rfl hb92 (by simp (disch := first|omega|(simp only[ln];omega)) [idf_Wd', idf_numS, cells_numS, numS_fold, idf_numI, cells_numI, numI_fold, Sp.av, Sp.cells, Sg.av, Sg.cells, Pt.av, Pt.cells, spA, spC, numC]) (by simp (disch := first|omega|(simp only[ln];omega))) (by simp) ?_
              simp only [updo]
              refine DP.fcall (k3) rfl rfl rfl hb88 (by simp (disch := first|omega|(simp only[ln];omega)) [idf_Wd', idf_numS, cells_numS, numS_fold, idf_numI, cells_numI, numI_fold, Sp.av, Sp.cells, Sg.av, Sg.cells, Pt.av, Pt.cells, spA, spC, numC]) (by simp (disch := first|omega|(simp only[ln];omega))) (by simp) ?_
              simp only [updo]
              refine DP.runFk 1 (by simp (disch := first|omega|(simp only[ln];omega)) [runDf.eq_def, runF1, runF2, stepF.eq_def, updo.eq_def, hupo.eq_def, opSto1.eq_def, List.take_succ_cons, List.take_zero, idf_Wd', idf_numS, cells_numS, numS_fold, idf_numI, cells_numI, numI_fold, Sp.av, Sp.cells, Sg.av, Sg.cells, Pt.av, Pt.cells, spA, spC, numC]; rfl) fun fs21 hfs21 => ?_
              replace hfs21 : fs21.length = 1 := hfs21.trans rfl
              simp only [List.drop_succ_cons, List.drop_zero]
              refine DQ.runF (m := 11) (by simp only [List.length_append, List.length_cons, List.length_nil, hfs19, hfs20, hfs21]; omega) _ _ _ (by kernel_rfl) rfl (by simp (disch := first|omega|(simp only[ln];omega)) [runDf.eq_def, runF1, runF2, stepF.eq_def, updo.eq_def, hupo.eq_def, opSto1.eq_def, idf_Wd', idf_numS, cells_numS, numS_fold, idf_numI, cells_numI, numI_fold, Sp.av, Sp.cells, Sg.av, Sg.cells, Pt.av, Pt.cells, spA, spC, numC]; rfl) ?_
              refine hK18 _ ?_
              refine cond_ok (decide (u3 < 0)) (by simp (disch := first|omega|(simp only[ln];omega))) (fun h57 => ?_) (fun h57 => ?_)
              · try simp only [decide_eq_true_eq, decide_eq_false_iff_not] at h57
                refine AWP.seqk fun K22 hK22 => ?_
                refine AWP.region (AOPS.all (by simp (disch := first|omega|(simp only[ln];omega)) [idf_Wd', idf_numS, cells_numS, numS_fold, idf_numI, cells_numI, numI_fold, Sp.av, Sp.cells, Sg.av, Sg.cells, Pt.av, Pt.cells, spA, spC, numC]; rfl) ?_)
                refine hK22 _ ?_
                refine AWP.ret ?_
                exact hK _ _ _ _ trivial ((Fin.mk (by simp [aRes, aResL, aRes1, idf_Wd', idf_numS, cells_numS, numS_fold, idf_numI, cells_numI, numI_fold, Sp.av, Sp.cells, Sg.av, Sg.cells, Pt.av, Pt.cells, spA, spC, numC]; try rfl)).cast (by rw [eI, if_pos h57]))
              · try simp only [decide_eq_true_eq, decide_eq_false_iff_not] at h57
                rw [if_neg h57] at eI
                refine AWP.seqk fun K23 hK23 => ?_
                refine AWP.draw 11 Try.checked.mixed (by kernel_rfl) (by simp) ?_
                simp only [List.take_succ_cons, List.take_zero, List.drop_succ_cons, List.drop_zero]
                refine DP.runFk 5 (by simp (disch := first|omega|(simp only[ln];omega)) [runDf.eq_def, runF1, runF2, stepF.eq_def, updo.eq_def, hupo.eq_def, opSto1.eq_def, List.take_succ_cons, List.take_zero, idf_Wd', idf_numS, cells_numS, numS_fold, idf_numI, cells_numI, numI_fold, Sp.av, Sp.cells, Sg.av, Sg.cells, Pt.av, Pt.cells, spA, spC, numC]; rfl) fun fs24 hfs24 => ?_
                replace hfs24 : fs24.length = 5 := hfs24.trans rfl
                simp only [List.drop_succ_cons, List.drop_zero]
                refine DP.fcall (whole_fc s.b.y (by omega) (by omega)) rfl rfl rfl hb89 (by simp (disch := first|omega|(simp only[ln];omega)) [idf_Wd', idf_numS, cells_numS, numS_fold, idf_numI, cells_numI, numI_fold, Sp.av, Sp.cells, Sg.av, Sg.cells, Pt.av, Pt.cells, spA, spC, numC]) (by simp (disch := first|omega|(simp only[ln];omega))) (by simp) ?_
                simp only [updo]
                refine DP.runFk 2 (by simp (disch := first|omega|(simp only[ln];omega)) [runDf.eq_def, runF1, runF2, stepF.eq_def, updo.eq_def, hupo.eq_def, opSto1.eq_def, List.take_succ_cons, List.take_zero, idf_Wd', idf_numS, cells_numS, numS_fold, idf_numI, cells_numI, numI_fold, Sp.av, Sp.cells, Sg.av, Sg.cells, Pt.av, Pt.cells, spA, spC, numC]; rfl) fun fs25 hfs25 => ?_
                replace hfs25 : fs25.length = 2 := hfs25.trans rfl
                simp only [List.drop_succ_cons, List.drop_zero]
                refine DP.fcall (by_fc bY pW (by omega) (by omega)) rfl rfl rfl hb92 (by simp (disch := first|omega|(simp only[ln];omega)) [idf_Wd', idf_numS, cells_numS, numS_fold, idf_numI, cells_numI, numI_fold, Sp.av, Sp.cells, Sg.av, Sg.cells, Pt.av, Pt.cells, spA, spC, numC]) (by simp (disch := first|omega|(simp only[ln];omega))) (by simp) ?_
                simp only [updo]
                refine DP.fcall (k4) rfl rfl rfl hb88 (by simp (disch := first|omega|(simp only[ln];omega)) [idf_Wd', idf_numS, cells_numS, numS_fold, idf_numI, cells_numI, numI_fold, Sp.av, Sp.cells, Sg.av, Sg.cells, Pt.av, Pt.cells, spA, spC, numC]) (by simp (disch := first|omega|(simp only[ln];omega))) (by simp) ?_
                simp only [updo]
                refine DP.runFk 1 (by simp (disch := first|omega|(simp only[ln];omega)) [runDf.eq_def, runF1, runF2, stepF.eq_def, updo.eq_def, hupo.eq_def, opSto1.eq_def, List.take_succ_cons, List.take_zero, idf_Wd', idf_numS, cells_numS, numS_fold, idf_numI, cells_numI, numI_fold, Sp.av, Sp.cells, Sg.av, Sg.cells, Pt.av, Pt.cells, spA, spC, numC]; rfl) fun fs26 hfs26 => ?_
                replace hfs26 : fs26.length = 1 := hfs26.trans rfl
                simp only [List.drop_succ_cons, List.drop_zero]
                refine DQ.runF (m := 11) (by simp only [List.length_append, List.length_cons, List.length_nil, hfs24, hfs25, hfs26]; omega) _ _ _ (by kernel_rfl) rfl (by simp (disch := first|omega|(simp only[ln];omega)) [runDf.eq_def, runF1, runF2, stepF.eq_def, updo.eq_def, hupo.eq_def, opSto1.eq_def, idf_Wd', idf_numS, cells_numS, numS_fold, idf_numI, cells_numI, numI_fold, Sp.av, Sp.cells, Sg.av, Sg.cells, Pt.av, Pt.cells, spA, spC, numC]; rfl) ?_
                refine hK23 _ ?_
                refine cond_ok (decide (0 < u4)) (by simp (disch := first|omega|(simp only[ln];omega))) (fun h69 => ?_) (fun h69 => ?_)
                · try simp only [decide_eq_true_eq, decide_eq_false_iff_not] at h69
                  refine AWP.seqk fun K27 hK27 => ?_
                  refine AWP.region (AOPS.all (by simp (disch := first|omega|(simp only[ln];omega)) [idf_Wd', idf_numS, cells_numS, numS_fold, idf_numI, cells_numI, numI_fold, Sp.av, Sp.cells, Sg.av, Sg.cells, Pt.av, Pt.cells, spA, spC, numC]; rfl) ?_)
                  refine hK27 _ ?_
                  refine AWP.ret ?_
                  exact hK _ _ _ _ trivial ((Fin.mk (by simp [aRes, aResL, aRes1, idf_Wd', idf_numS, cells_numS, numS_fold, idf_numI, cells_numI, numI_fold, Sp.av, Sp.cells, Sg.av, Sg.cells, Pt.av, Pt.cells, spA, spC, numC]; try rfl)).cast (by rw [eI, if_pos h69]))
                · try simp only [decide_eq_true_eq, decide_eq_false_iff_not] at h69
                  rw [if_neg h69] at eI
                  refine AWP.skip ?_
                  refine hK12 _ ?_
                  refine AWP.seqk fun K28 hK28 => ?_
                  refine AWP.region (AOPS.all (by simp (disch := first|omega|(simp only[ln];omega)) [idf_Wd', idf_numS, cells_numS, numS_fold, idf_numI, cells_numI, numI_fold, Sp.av, Sp.cells, Sg.av, Sg.cells, Pt.av, Pt.cells, spA, spC, numC]; rfl) ?_)
                  refine hK28 _ ?_
                  refine AWP.ret ?_
                  exact hK _ _ _ _ trivial ((Fin.mk (by simp [aRes, aResL, aRes1, idf_Wd', idf_numS, cells_numS, numS_fold, idf_numI, cells_numI, numI_fold, Sp.av, Sp.cells, Sg.av, Sg.cells, Pt.av, Pt.cells, spA, spC, numC]; try rfl)).cast (by rw [eI]))

end Go.Proofs.Ytmaebeknmiomnaa
