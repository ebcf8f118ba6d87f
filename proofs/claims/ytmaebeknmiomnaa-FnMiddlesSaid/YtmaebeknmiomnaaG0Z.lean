/- Walks: drawn numbers near others; drawn spots. -/
import Derived.Test.YtmaebeknmiomnaaG0Y

namespace Go.Proofs.Ytmaebeknmiomnaa
open Go Go.RowKit
set_option linter.unusedSimpArgs false
set_option linter.unusedVariables false
set_option maxRecDepth 100000
attribute [local simp] List.getElem?_cons_zero List.getElem?_cons_succ List.getElem?_toArray runOps stepOp.eq_def agd.eq_def dstOk.eq_def opVal.eq_def opNew.eq_def opSto.eq_def ev.eq_def cv.eq_def puts_some puts_none upd_ap lst.eq_def aBin.eq_def aUn.eq_def aBi_str aBi_isl aBi_osl aBi_nsl aBi_max aBi_min aBi_max3 aConv.eq_def aLd.eq_def aLoad.eq_def aField.eq_def aFld.eq_def aIdx_isl aIdx_osl aSlc_isl aSlc_osl aSlc_str aSlc_nsl bnd.eq_def evs_nil evs_cons aBuild.eq_def aFill splice.eq_def cells_agg cells_int cells_bool cells_str cells_nil cells_nsl cells_isl cells_osl cells_ptr cells_ip cells_fn cells_Wd one_int one_bool one_str one_nil one_nsl one_isl one_osl one_ptr one_ip one_fn one_Wd aSets hupd_eq hupd_ne wrap_i64s wrap_u64s wrap_u32s wrap_u8s wd_getD wd_set wd_len wd_replicate wd_one wd_fold fz_osl hupd_same aSix.eq_def aEqS.eq_def aEqB_bool aEqB_nsl aEqB_nil
attribute [local simp] szT2 byT2 agT2 unT2 zoT2 szT3 byT3 agT3 unT3 zoT3 szT24 byT24 agT24 unT24 zoT24 szT67 byT67 agT67 flT67 fdT67_0 fdT67_1 zoT67

set_option maxHeartbeats 1000000 in
theorem near_ac (a b : Int) (ha : -1152921504606846976 ≤ a) (hab : a ≤ b) (hb : b ≤ 1152921504606846976) (l : List Int) (p id : Nat) (H : Heap) (nx : Nat) (dl : Dig 256 l) (hl : l.length ≤ 1048576) (hp : p ≤ l.length) (hH : H id = some (2, [[Wd .u8 l, .int .i64 (p : Int)]])) (hd : ∀ i q, H i = some q → i < nx) : ACall Try.prog 164 [.ptr id 0 0, .int .i64 a, .int .i64 b] H nx (fun r H' nx' => (∃ k : Int, r = .int .i64 k ∧ a ≤ k ∧ k ≤ b) ∧ (∃ p' : Nat, p' ≤ l.length ∧ H' = hupd H id (some (2, [[Wd .u8 l, .int .i64 (p' : Int)]]))) ∧ nx ≤ nx') := by
  have hid := hd id _ hH
  refine ACall.body Try.func164 rfl 31 rfl fun K hK => ?_
  refine AWP.seqk fun K1 hK1 => ?_
  refine AWP.region (AOPS.all (by simp (disch := first|omega|(simp only[ln];omega)) [idf_Wd']; rfl) ?_)
  refine hK1 _ ?_
  refine AWP.seqk fun K2 hK2 => ?_
  refine AWP.seqk fun K3 hK3 => ?_
  refine AWP.region ?_
  refine AOPS.runk 1 (by simp (disch := first|omega|(simp only[ln];omega)) [List.take_succ_cons, List.take_zero, idf_Wd']; rfl) ?_
  simp only [List.drop_succ_cons, List.drop_zero]
  refine AOPS.old fun hold1 => ?_
  refine AOPS.acall (below_ac 8 (by omega) (by omega) l p id _ _ dl hl hp (by simp [hH]) hold1) rfl rfl rfl hb159 (by simp (disch := first|omega|(simp only[ln];omega)) [idf_Wd']) (by simp (disch := first|omega|(simp only[ln];omega))) (by simp) ?_
  rintro _ _ nx2 ⟨⟨k, rfl, k0, k1⟩, ⟨p2, hp2, rfl⟩, hnx2⟩
  try simp only [] at hnx2
  simp only [puts_some, updo]
  refine AOPS.nil ?_
  refine hK3 _ ?_
  refine AWP.block ?_
  refine AWP.seqk fun K4 hK4 => ?_
  refine AWP.region (AOPS.all (by simp (disch := first|omega|(simp only[ln];omega)) [idf_Wd']; rfl) ?_)
  refine hK4 _ ?_
  refine cond_ok _ (by simp (disch := first|omega|(simp only[ln];omega)); rfl) (fun h9 => ?_) (fun h9 => ?_)
  · try simp only [decide_eq_true_eq, decide_eq_false_iff_not] at h9
    refine AWP.seqk fun K5 hK5 => ?_
    refine AWP.region (AOPS.all (by simp (disch := first|omega|(simp only[ln];omega)) [idf_Wd']; rfl) ?_)
    refine hK5 _ ?_
    refine AWP.ret ?_
    exact hK _ _ _ _ _ trivial (Fin.mk (r := .int .i64 a) (by simp [aRes, aResL, aRes1, idf_Wd'])) (⟨⟨_, rfl, by omega, by omega⟩, ⟨p2, hp2, by simp [hupd_same]⟩, by first | exact hnx2 | (simp at *; omega)⟩)
  · try simp only [decide_eq_true_eq, decide_eq_false_iff_not] at h9
    refine AWP.seqk fun K6 hK6 => ?_
    refine AWP.region (AOPS.all (by simp (disch := first|omega|(simp only[ln];omega)) [idf_Wd']; rfl) ?_)
    refine hK6 _ ?_
    refine cond_ok _ (by simp (disch := first|omega|(simp only[ln];omega)); rfl) (fun h12 => ?_) (fun h12 => ?_)
    · try simp only [decide_eq_true_eq, decide_eq_false_iff_not] at h12
      refine AWP.seqk fun K7 hK7 => ?_
      refine AWP.region (AOPS.all (by simp (disch := first|omega|(simp only[ln];omega)) [idf_Wd']; rfl) ?_)
      refine hK7 _ ?_
      refine AWP.ret ?_
      exact hK _ _ _ _ _ trivial (Fin.mk (r := .int .i64 b) (by simp [aRes, aResL, aRes1, idf_Wd'])) (⟨⟨_, rfl, by omega, by omega⟩, ⟨p2, hp2, by simp [hupd_same]⟩, by first | exact hnx2 | (simp at *; omega)⟩)
    · try simp only [decide_eq_true_eq, decide_eq_false_iff_not] at h12
      refine AWP.skip ?_
      refine hK2 _ ?_
      refine AWP.seqk fun K8 hK8 => ?_
      refine AWP.seqk fun K9 hK9 => ?_
      refine AWP.region (AOPS.all (by simp (disch := first|omega|(simp only[ln];omega)) [idf_Wd']; rfl) ?_)
      refine hK9 _ ?_
      refine cond_ok _ (by simp (disch := first|omega|(simp only[ln];omega)); rfl) (fun h17 => ?_) (fun h17 => ?_)
      · simp at h17; omega
      · try simp only [decide_eq_true_eq, decide_eq_false_iff_not] at h17
        refine AWP.skip ?_
        refine hK8 _ ?_
        refine AWP.seqk fun K10 hK10 => ?_
        have hdz : b - a + 1 ≠ 0 := by omega
        have cw : IntKind.u64.wrap (b - a + 1) = b - a + 1 := wrap_u64s (by omega) (by omega)
        have tmw : ∀ w : Int, 0 ≤ w → (w / 2).tmod (b - a + 1) = w / 2 % (b - a + 1) := fun w h => Int.tmod_eq_emod_of_nonneg (by omega)
        have sw : ∀ w : Int, 0 ≤ w → IntKind.i64.wrap (w / 2 % (b - a + 1)) = w / 2 % (b - a + 1) := fun w h => by
          have e0 := Int.emod_nonneg (w / 2) hdz
          have e1 := Int.emod_lt_of_pos (w / 2) (show 0 < b - a + 1 by omega)
          exact wrap_i64s (by omega) (by omega)
        refine AWP.region ?_
        refine AOPS.runk 2 (by simp (disch := first|omega|(simp only[ln];omega)) [List.take_succ_cons, List.take_zero, idf_Wd', IntKind.bits, Int.fdiv_eq_ediv_of_nonneg, hdz, tmw, cw, sw]; rfl) ?_
        simp only [List.drop_succ_cons, List.drop_zero]
        refine AOPS.old fun hold2 => ?_
        refine AOPS.acall (word_ac l p2 id _ _ dl hl hp2 (by simp) hold2) rfl rfl rfl hb163 (by simp (disch := first|omega|(simp only[ln];omega)) [idf_Wd', IntKind.bits, Int.fdiv_eq_ediv_of_nonneg, hdz, tmw, cw, sw]) (by simp (disch := first|omega|(simp only[ln];omega)) [IntKind.bits, Int.fdiv_eq_ediv_of_nonneg, hdz, tmw, cw, sw]) (by simp) ?_
        rintro _ _ nx3 ⟨⟨w, rfl, hw0, hw1⟩, ⟨p3, hp3, rfl⟩, hnx3⟩
        have e0 := Int.emod_nonneg (w / 2) hdz
        have e1 := Int.emod_lt_of_pos (w / 2) (show 0 < b - a + 1 by omega)
        try simp only [] at hnx3
        simp only [puts_some, updo]
        refine AOPS.all (by simp (disch := first|omega|(simp only[ln];omega)) [idf_Wd', IntKind.bits, Int.fdiv_eq_ediv_of_nonneg, hdz, tmw, cw, sw]; rfl) ?_
        refine hK10 _ ?_
        refine AWP.ret ?_
        exact hK _ _ _ _ _ trivial (Fin.mk (r := .int .i64 (a + w / 2 % (b - a + 1))) (by simp [aRes, aResL, aRes1, idf_Wd'])) (⟨⟨_, rfl, by omega, by omega⟩, ⟨p3, hp3, by simp [hupd_same]⟩, by first | exact Nat.le_trans hnx2 hnx3 | (simp at *; omega)⟩)

set_option maxHeartbeats 1000000 in
theorem spot_ac (l : List Int) (p id : Nat) (H : Heap) (nx : Nat) (dl : Dig 256 l) (hl : l.length ≤ 1048576) (hp : p ≤ l.length) (hH : H id = some (2, [[Wd .u8 l, .int .i64 (p : Int)]])) (hd : ∀ i q, H i = some q → i < nx) : ACall Try.prog 130 [.ptr id 0 0] H nx (fun r H' nx' => (∃ x y : Int, r = .agg [.int .i64 x, .int .i64 y] ∧ -6 ≤ x ∧ x ≤ 6 ∧ -6 ≤ y ∧ y ≤ 6) ∧ (∃ p' : Nat, p' ≤ l.length ∧ H' = hupd H id (some (2, [[Wd .u8 l, .int .i64 (p' : Int)]]))) ∧ nx ≤ nx') := by
  have hid := hd id _ hH
  refine ACall.body Try.func130 rfl 8 rfl fun K hK => ?_
  refine AWP.seqk fun K1 hK1 => ?_
  refine AWP.region (AOPS.all (by simp (disch := first|omega|(simp only[ln];omega)) [idf_Wd']; rfl) ?_)
  refine hK1 _ ?_
  refine AWP.seqk fun K2 hK2 => ?_
  refine AWP.region ?_
  refine AOPS.runk 1 (by simp (disch := first|omega|(simp only[ln];omega)) [List.take_succ_cons, List.take_zero, idf_Wd', hH]; rfl) ?_
  simp only [List.drop_succ_cons, List.drop_zero]
  refine AOPS.old fun hold1 => ?_
  refine AOPS.acall (near_ac (-6) (6) (by omega) (by omega) (by omega) l p id _ _ dl hl hp (by simp (disch := omega) [hH]) hold1) rfl rfl rfl hb164 (by simp (disch := first|omega|(simp only[ln];omega)) [idf_Wd', hH]) (by simp (disch := first|omega|(simp only[ln];omega)) [hH]) (by simp) ?_
  rintro _ _ nx2 ⟨⟨x, rfl, x0, x1⟩, ⟨p2, hp2, rfl⟩, hnx2⟩
  try simp only [] at hnx2
  simp only [puts_some, updo]
  refine AOPS.runk 1 (by simp (disch := first|omega|(simp only[ln];omega)) [List.take_succ_cons, List.take_zero, idf_Wd', hH]; rfl) ?_
  simp only [List.drop_succ_cons, List.drop_zero]
  refine AOPS.old fun hold3 => ?_
  refine AOPS.acall (near_ac (-6) (6) (by omega) (by omega) (by omega) l p2 id _ _ dl hl hp2 (by simp (disch := omega) [hH]) hold3) rfl rfl rfl hb164 (by simp (disch := first|omega|(simp only[ln];omega)) [idf_Wd', hH]) (by simp (disch := first|omega|(simp only[ln];omega)) [hH]) (by simp) ?_
  rintro _ _ nx3 ⟨⟨y, rfl, y0, y1⟩, ⟨p3, hp3, rfl⟩, hnx3⟩
  try simp only [] at hnx3
  simp only [puts_some, updo]
  refine AOPS.all (by simp (disch := first|omega|(simp only[ln];omega)) [idf_Wd', hH]; rfl) ?_
  refine hK2 _ ?_
  refine AWP.ret ?_
  exact hK _ _ _ _ _ trivial ((Fin.mk (r := .agg [.int .i64 x, .int .i64 y]) (by simp (disch := omega) [aRes, aResL, aRes1, idf_Wd'])).restr (fun i => decide (i < nx))) (⟨⟨x, y, rfl, x0, x1, y0, y1⟩, ⟨p3, hp3, by simp (disch := first | omega | (simp; done) | (simp; omega)) [hrestr_in, hrestr_out, hrestr_all hd, hupd_same]⟩, by first | omega | (simp at *; omega)⟩)

end Go.Proofs.Ytmaebeknmiomnaa

/- Walks: drawn numbers in four words. -/
namespace Go.Proofs.Ytmaebeknmiomnaa
open Go Go.RowKit
set_option linter.unusedSimpArgs false
set_option linter.unusedVariables false
set_option maxRecDepth 100000
attribute [local simp] List.getElem?_cons_zero List.getElem?_cons_succ List.getElem?_toArray runOps stepOp.eq_def agd.eq_def dstOk.eq_def opVal.eq_def opNew.eq_def opSto.eq_def ev.eq_def cv.eq_def puts_some puts_none upd_ap lst.eq_def aBin.eq_def aUn.eq_def aBi_str aBi_isl aBi_osl aBi_nsl aBi_max aBi_min aBi_max3 aConv.eq_def aLd.eq_def aLoad.eq_def aField.eq_def aFld.eq_def aIdx_isl aIdx_osl aSlc_isl aSlc_osl aSlc_str aSlc_nsl bnd.eq_def evs_nil evs_cons aBuild.eq_def aFill splice.eq_def cells_agg cells_int cells_bool cells_str cells_nil cells_nsl cells_isl cells_osl cells_ptr cells_ip cells_fn cells_Wd one_int one_bool one_str one_nil one_nsl one_isl one_osl one_ptr one_ip one_fn one_Wd aSets hupd_eq hupd_ne wrap_i64s wrap_u64s wrap_u32s wrap_u8s wd_getD wd_set wd_len wd_replicate wd_one wd_fold fz_osl hupd_same aSix.eq_def aEqS.eq_def aEqB_bool aEqB_nsl aEqB_nil
attribute [local simp] szT2 byT2 agT2 unT2 zoT2 szT3 byT3 agT3 unT3 zoT3 szT24 byT24 agT24 unT24 zoT24 szT26 byT26 agT26 flT26 fdT26_0 fdT26_1 fdT26_2 fdT26_3 zoT26 szT111 byT111 agT111 elT111 unT111 zoT111 szT194 byT194 agT194 unT194 zoT194 szT225 byT225 agT225 unT225 zoT225 szT228 byT228 agT228 elT228 unT228 zoT228 szT236 byT236 agT236 elT236 unT236 zoT236

set_option maxHeartbeats 4000000 in
theorem wide_ac (l : List Int) (p id : Nat) (H : Heap) (nx : Nat) (dl : Dig 256 l) (hl : l.length ≤ 1048576) (hp : p ≤ l.length) (hH : H id = some (2, [[Wd .u8 l, .int .i64 (p : Int)]])) (hd : ∀ i q, H i = some q → i < nx) : ACall Try.prog 161 [.ptr id 0 0] H nx (fun r H' nx' => (∃ x : W4, r = .agg [.int .u64 (x).a, .int .u64 (x).b, .int .u64 (x).c, .int .u64 (x).d] ∧ x.ok) ∧ (∃ p' : Nat, p' ≤ l.length ∧ H' = hupd H id (some (2, [[Wd .u8 l, .int .i64 (p' : Int)]]))) ∧ nx ≤ nx') := by
  have hid := hd id _ hH
  have t7l : tab7.length = 7 := rfl
  have hTl : (tab6.map W4.l).length = 6 := rfl
  obtain ⟨T, hT0⟩ : ∃ T, List.map W4.l tab6 = T := ⟨_, rfl⟩
  have hTx := gt6_get
  rw [hT0] at hTl hTx
  have hTy : ∀ (k : Nat) (h : k < T.length), T[k] = [.int .u64 (gt6 k).a, .int .u64 (gt6 k).b, .int .u64 (gt6 k).c, .int .u64 (gt6 k).d] := fun k h => by
    have := hTx k (by omega)
    rw [List.getElem?_eq_getElem h] at this
    simpa using this
  clear hTx
  refine ACall.body Try.func161 rfl 85 rfl fun K hK => ?_
  refine AWP.seqk fun K1 hK1 => ?_
  refine AWP.region (AOPS.all (by simp (disch := first|omega|(simp only[ln];omega)) [idf_Wd', idf_numS, cells_numS, numS_fold]; rfl) ?_)
  refine hK1 _ ?_
  refine AWP.seqk fun K2 hK2 => ?_
  refine AWP.seqk fun K3 hK3 => ?_
  refine AWP.region ?_
  refine AOPS.runk 1 (by simp (disch := first|omega|(simp only[ln];omega)) [List.take_succ_cons, List.take_zero, idf_Wd', idf_numS, cells_numS, numS_fold, hH]; rfl) ?_
  simp only [List.drop_succ_cons, List.drop_zero]
  refine AOPS.old fun hold1 => ?_
  refine AOPS.acall (below_ac 9 (by omega) (by omega) l p id _ _ dl hl hp (by simp (disch := omega) [hH]) hold1) rfl rfl rfl hb159 (by simp (disch := first|omega|(simp only[ln];omega)) [idf_Wd', hH, idf_numS, cells_numS, numS_fold]) (by simp (disch := first|omega|(simp only[ln];omega)) [hH]) (by simp) ?_
  rintro _ _ nx2 ⟨⟨k, rfl, k0, k1⟩, ⟨p2, hp2, rfl⟩, hnx2⟩
  try simp only [] at hnx2
  clear hold1
  simp only [puts_some, updo]
  refine AOPS.nil ?_
  refine hK3 _ ?_
  refine AWP.block ?_
  refine AWP.seqk fun K4 hK4 => ?_
  refine AWP.region (AOPS.all (by simp (disch := first|omega|(simp only[ln];omega)) [idf_Wd', idf_numS, cells_numS, numS_fold]; rfl) ?_)
  refine hK4 _ ?_
  refine cond_ok (k == 0) (by simp (disch := first|omega|(simp only[ln];omega))) (fun h9 => ?_) (fun h9 => ?_)
  · try simp only [decide_eq_true_eq, decide_eq_false_iff_not] at h9
    refine AWP.seqk fun K5 hK5 => ?_
    refine AWP.region ?_
    refine AOPS.runk 2 (by simp (disch := first|omega|(simp only[ln];omega)) [List.take_succ_cons, List.take_zero, idx_WdD (P := Try.prog) elT228 szT2, if_pos, idf_Wd', idf_numS, cells_numS, numS_fold, t7l]; rfl) ?_
    simp only [List.drop_succ_cons, List.drop_zero]
    refine AOPS.frz1 11 nx2 1 (wd .i64 tab7) (Wd .i64 tab7) (by simp; rfl) (by simp; first | exact fz_wd rfl | exact isl_take_wd (by decide)) ?_
    refine AOPS.old fun hold2 => ?_
    refine AOPS.acall (below_ac 7 (by omega) (by omega) l p2 id _ _ dl hl hp2 (by simp (disch := omega) [hH]) hold2) rfl rfl rfl hb159 (by simp (disch := first|omega|(simp only[ln];omega)) [idf_Wd', t7l, idf_numS, cells_numS, numS_fold]) (by simp (disch := first|omega|(simp only[ln];omega)) [t7l]) (by simp) ?_
    rintro _ _ nx3 ⟨⟨k7, rfl, k70, k71⟩, ⟨p3, hp3, rfl⟩, hnx3⟩
    try simp only [] at hnx3
    clear hold2
    have hk7 : k7.toNat < 7 := by omega
    simp only [puts_some, updo]
    refine AOPS.runk 2 (by simp (disch := first|omega|(simp only[ln];omega)) [List.take_succ_cons, List.take_zero, idx_WdD (P := Try.prog) elT228 szT2, if_pos, idf_Wd', idf_numS, cells_numS, numS_fold, t7l]; rfl) ?_
    simp only [List.drop_succ_cons, List.drop_zero]
    refine AOPS.fcall (wideOfS_fc (gt tab7 k7.toNat) (tab7_b _).1 (tab7_b _).2) rfl rfl rfl hb162 (by simp (disch := first|omega|(simp only[ln];omega)) [idf_Wd', t7l, idf_numS, cells_numS, numS_fold]) (by simp (disch := first|omega|(simp only[ln];omega)) [t7l]) (by simp) ?_
    simp only [puts_some, updo]
    refine AOPS.all (by simp (disch := first|omega|(simp only[ln];omega)) [idx_WdD (P := Try.prog) elT228 szT2, if_pos, idf_Wd', idf_numS, cells_numS, numS_fold, t7l]; rfl) ?_
    refine hK5 _ ?_
    refine AWP.ret ?_
    exact hK _ _ _ _ _ trivial ((Fin.mk (r := .agg [.int .u64 (W4z (gt tab7 k7.toNat)).a, .int .u64 (W4z (gt tab7 k7.toNat)).b, .int .u64 (W4z (gt tab7 k7.toNat)).c, .int .u64 (W4z (gt tab7 k7.toNat)).d]) (by simp (disch := omega) [aRes, aResL, aRes1, idf_Wd', idf_numS, cells_numS, numS_fold])).restr (fun i => decide (i < nx))) (⟨⟨W4z (gt tab7 k7.toNat), rfl, W4z_ok _⟩, ⟨p3, hp3, by simp (disch := first | omega | (simp; done) | (simp; omega)) [hrestr_in, hrestr_out, hrestr_all hd, hupd_same]⟩, by first | omega | (simp at *; omega)⟩)
  · try simp only [decide_eq_true_eq, decide_eq_false_iff_not] at h9
    refine AWP.seqk fun K6 hK6 => ?_
    refine AWP.region (AOPS.all (by simp (disch := first|omega|(simp only[ln];omega)) [idf_Wd', idf_numS, cells_numS, numS_fold]; rfl) ?_)
    refine hK6 _ ?_
    refine cond_ok (k == 1) (by simp (disch := first|omega|(simp only[ln];omega))) (fun h17 => ?_) (fun h17 => ?_)
    · try simp only [decide_eq_true_eq, decide_eq_false_iff_not] at h17
      refine AWP.seqk fun K7 hK7 => ?_
      refine AWP.region ?_
      refine AOPS.runk 8 (by simp (disch := first|omega|(simp only[ln];omega)) [List.take_succ_cons, List.take_zero, if_pos, idf_Wd', idf_numS, cells_numS, numS_fold, hTl, hTy]; rfl) ?_
      simp only [List.drop_succ_cons, List.drop_zero]
      refine AOPS.frz1 25 nx2 4 T (.isl T) (by simp [← hT0, tab6, W4.l]) (by simp; rw [← hT0]; exact fz_fill W4.l tab6 rfl) ?_
      refine AOPS.old fun hold8 => ?_
      refine AOPS.acall (below_ac 6 (by omega) (by omega) l p2 id _ _ dl hl hp2 (by simp (disch := omega) [hH]) hold8) rfl rfl rfl hb159 (by simp (disch := first|omega|(simp only[ln];omega)) [idf_Wd', hTl, hTy, idf_numS, cells_numS, numS_fold]) (by simp (disch := first|omega|(simp only[ln];omega)) [hTl, hTy]) (by simp) ?_
      rintro _ _ nx3 ⟨⟨k6, rfl, k60, k61⟩, ⟨p3, hp3, rfl⟩, hnx3⟩
      try simp only [] at hnx3
      clear hold8
      have hk6 : k6.toNat < 6 := by omega
      simp only [puts_some, updo]
      refine AOPS.all (by simp (disch := first|omega|(simp only[ln];omega)) [if_pos, idf_Wd', idf_numS, cells_numS, numS_fold, hTl, hTy]; rfl) ?_
      refine hK7 _ ?_
      refine AWP.ret ?_
      exact hK _ _ _ _ _ trivial ((Fin.mk (r := .agg [.int .u64 (gt6 k6.toNat).a, .int .u64 (gt6 k6.toNat).b, .int .u64 (gt6 k6.toNat).c, .int .u64 (gt6 k6.toNat).d]) (by simp (disch := omega) [aRes, aResL, aRes1, idf_Wd', idf_numS, cells_numS, numS_fold])).restr (fun i => decide (i < nx))) (⟨⟨gt6 k6.toNat, rfl, gt6_ok _⟩, ⟨p3, hp3, by simp (disch := first | omega | (simp; done) | (simp; omega)) [hrestr_in, hrestr_out, hrestr_all hd, hupd_same]⟩, by first | omega | (simp at *; omega)⟩)
    · try simp only [decide_eq_true_eq, decide_eq_false_iff_not] at h17
      refine AWP.seqk fun K8 hK8 => ?_
      refine AWP.region (AOPS.all (by simp (disch := first|omega|(simp only[ln];omega)) [idf_Wd', idf_numS, cells_numS, numS_fold]; rfl) ?_)
      refine hK8 _ ?_
      refine cond_ok (k == 2) (by simp (disch := first|omega|(simp only[ln];omega))) (fun h30 => ?_) (fun h30 => ?_)
      · try simp only [decide_eq_true_eq, decide_eq_false_iff_not] at h30
        refine AWP.seqk fun K9 hK9 => ?_
        refine AWP.region ?_
        refine AOPS.runk 1 (by simp (disch := first|omega|(simp only[ln];omega)) [List.take_succ_cons, List.take_zero, idf_Wd', idf_numS, cells_numS, numS_fold]; rfl) ?_
        simp only [List.drop_succ_cons, List.drop_zero]
        refine AOPS.old fun hold1 => ?_
        refine AOPS.acall (once_ac 2 (by omega) (by omega) l p2 id _ _ dl hl hp2 (by simp (disch := omega) [hH]) hold1) rfl rfl rfl hb78 (by simp (disch := first|omega|(simp only[ln];omega)) [idf_Wd', idf_numS, cells_numS, numS_fold]) (by simp (disch := first|omega|(simp only[ln];omega))) (by simp) ?_
        rintro _ _ nx3 ⟨⟨b, rfl⟩, ⟨p3, hp3, rfl⟩, hnx3⟩
        try simp only [] at hnx3
        clear hold1
        simp only [puts_some, updo]
        refine AOPS.runk 2 (by simp (disch := first|omega|(simp only[ln];omega)) [List.take_succ_cons, List.take_zero, idf_Wd', idf_numS, cells_numS, numS_fold]; rfl) ?_
        simp only [List.drop_succ_cons, List.drop_zero]
        refine AOPS.frz1 35 nx3 1 (wd .u32 [1]) (Wd .u32 [1]) (by simp) (by simp; first | exact fz_wd rfl | exact isl_take_wd (by simp)) ?_
        refine AOPS.old fun hold4 => ?_
        refine AOPS.acall (below_ac 255 (by omega) (by omega) l p3 id _ _ dl hl hp3 (by simp (disch := omega) [hH]) hold4) rfl rfl rfl hb159 (by simp (disch := first|omega|(simp only[ln];omega)) [idf_Wd', idf_numS, cells_numS, numS_fold]) (by simp (disch := first|omega|(simp only[ln];omega))) (by simp) ?_
        rintro _ _ nx4 ⟨⟨k8, rfl, k80, k81⟩, ⟨p4, hp4, rfl⟩, hnx4⟩
        try simp only [] at hnx4
        clear hold4
        obtain ⟨K8, rfl⟩ := Int.eq_ofNat_of_zero_le k80
        have hL := l1LeftI 1 K8 (by omega) (by rw [show ((1 : Nat) : Int) = 1 from rfl, dg_one]; simp)
        rw [show ((1 : Nat) : Int) = 1 from rfl, dg_one] at hL
        have bP := bg_pow K8 (by omega) b
        have bP0 := bg_pow K8 (by omega) false
        have hT := l1Trim_fc b (dg ((1 * 2 ^ K8 : Nat) : Int)) (by have := bP0.len32; rw [sg_false] at this; omega) (dg_dig _)
        rw [dg_val, Int.natAbs_natCast] at hT
        have hWd := l1Wide_fc bP (by omega)
        rw [wdT_l] at hWd
        unfold W4.l at hWd
        simp only [puts_some, updo]
        refine AOPS.fcall (hL) rfl rfl rfl hb210 (by simp (disch := first|omega|(simp only[ln];omega)) [idf_Wd', idf_numS, cells_numS, numS_fold]) (by simp (disch := first|omega|(simp only[ln];omega))) (by simp) ?_
        simp only [puts_some, updo]
        refine AOPS.fcall (hT) rfl rfl rfl hb195 (by simp (disch := first|omega|(simp only[ln];omega)) [idf_Wd', idf_numS, cells_numS, numS_fold]) (by simp (disch := first|omega|(simp only[ln];omega))) (by simp) ?_
        simp only [puts_some, updo]
        refine AOPS.fcall (hWd) rfl rfl rfl hb192 (by simp (disch := first|omega|(simp only[ln];omega)) [idf_Wd', idf_numS, cells_numS, numS_fold]) (by simp (disch := first|omega|(simp only[ln];omega))) (by simp) ?_
        simp only [puts_some, updo]
        refine AOPS.all (by simp (disch := first|omega|(simp only[ln];omega)) [idf_Wd', idf_numS, cells_numS, numS_fold]; rfl) ?_
        refine hK9 _ ?_
        refine AWP.seqk fun K10 hK10 => ?_
        refine AWP.region (AOPS.all (by simp (disch := first|omega|(simp only[ln];omega)) [idf_Wd', idf_numS, cells_numS, numS_fold]; rfl) ?_)
        refine hK10 _ ?_
        refine AWP.ret ?_
        exact hK _ _ _ _ _ trivial ((Fin.mk (r := .agg [.int .u64 (W4z (sg b ((1 * 2 ^ K8 : Nat) : Int))).a, .int .u64 (W4z (sg b ((1 * 2 ^ K8 : Nat) : Int))).b, .int .u64 (W4z (sg b ((1 * 2 ^ K8 : Nat) : Int))).c, .int .u64 (W4z (sg b ((1 * 2 ^ K8 : Nat) : Int))).d]) (by simp (disch := omega) [aRes, aResL, aRes1, idf_Wd', idf_numS, cells_numS, numS_fold])).restr (fun i => decide (i < nx))) (⟨⟨W4z (sg b ((1 * 2 ^ K8 : Nat) : Int)), rfl, W4z_ok _⟩, ⟨p4, hp4, by simp (disch := first | omega | (simp; done) | (simp; omega)) [hrestr_in, hrestr_out, hrestr_all hd, hupd_same]⟩, by first | omega | (simp at *; omega)⟩)
      · try simp only [decide_eq_true_eq, decide_eq_false_iff_not] at h30
        refine AWP.seqk fun K11 hK11 => ?_
        refine AWP.region (AOPS.all (by simp (disch := first|omega|(simp only[ln];omega)) [idf_Wd', idf_numS, cells_numS, numS_fold]; rfl) ?_)
        refine hK11 _ ?_
        refine cond_ok (k == 3) (by simp (disch := first|omega|(simp only[ln];omega))) (fun h44 => ?_) (fun h44 => ?_)
        · try simp only [decide_eq_true_eq, decide_eq_false_iff_not] at h44
          refine AWP.seqk fun K12 hK12 => ?_
          refine AWP.region ?_
          refine AOPS.runk 1 (by simp (disch := first|omega|(simp only[ln];omega)) [List.take_succ_cons, List.take_zero, idf_Wd', idf_numS, cells_numS, numS_fold]; rfl) ?_
          simp only [List.drop_succ_cons, List.drop_zero]
          refine AOPS.old fun hold1 => ?_
          refine AOPS.acall (word_ac l p2 id _ _ dl hl hp2 (by simp (disch := omega) [hH]) hold1) rfl rfl rfl hb163 (by simp (disch := first|omega|(simp only[ln];omega)) [idf_Wd', idf_numS, cells_numS, numS_fold]) (by simp (disch := first|omega|(simp only[ln];omega))) (by simp) ?_
          rintro _ _ nx3 ⟨⟨wa, rfl, wau⟩, ⟨p3, hp3, rfl⟩, hnx3⟩
          try simp only [] at hnx3
          clear hold1
          simp only [puts_some, updo]
          refine AOPS.runk 1 (by simp (disch := first|omega|(simp only[ln];omega)) [List.take_succ_cons, List.take_zero, idf_Wd', idf_numS, cells_numS, numS_fold]; rfl) ?_
          simp only [List.drop_succ_cons, List.drop_zero]
          refine AOPS.old fun hold3 => ?_
          refine AOPS.acall (word_ac l p3 id _ _ dl hl hp3 (by simp (disch := omega) [hH]) hold3) rfl rfl rfl hb163 (by simp (disch := first|omega|(simp only[ln];omega)) [idf_Wd', idf_numS, cells_numS, numS_fold]) (by simp (disch := first|omega|(simp only[ln];omega))) (by simp) ?_
          rintro _ _ nx4 ⟨⟨wb, rfl, wbu⟩, ⟨p4, hp4, rfl⟩, hnx4⟩
          try simp only [] at hnx4
          clear hold3
          simp only [puts_some, updo]
          refine AOPS.runk 1 (by simp (disch := first|omega|(simp only[ln];omega)) [List.take_succ_cons, List.take_zero, idf_Wd', idf_numS, cells_numS, numS_fold]; rfl) ?_
          simp only [List.drop_succ_cons, List.drop_zero]
          refine AOPS.old fun hold5 => ?_
          refine AOPS.acall (word_ac l p4 id _ _ dl hl hp4 (by simp (disch := omega) [hH]) hold5) rfl rfl rfl hb163 (by simp (disch := first|omega|(simp only[ln];omega)) [idf_Wd', idf_numS, cells_numS, numS_fold]) (by simp (disch := first|omega|(simp only[ln];omega))) (by simp) ?_
          rintro _ _ nx5 ⟨⟨wc, rfl, wcu⟩, ⟨p5, hp5, rfl⟩, hnx5⟩
          try simp only [] at hnx5
          clear hold5
          simp only [puts_some, updo]
          refine AOPS.runk 1 (by simp (disch := first|omega|(simp only[ln];omega)) [List.take_succ_cons, List.take_zero, idf_Wd', idf_numS, cells_numS, numS_fold]; rfl) ?_
          simp only [List.drop_succ_cons, List.drop_zero]
          refine AOPS.old fun hold7 => ?_
          refine AOPS.acall (word_ac l p5 id _ _ dl hl hp5 (by simp (disch := omega) [hH]) hold7) rfl rfl rfl hb163 (by simp (disch := first|omega|(simp only[ln];omega)) [idf_Wd', idf_numS, cells_numS, numS_fold]) (by simp (disch := first|omega|(simp only[ln];omega))) (by simp) ?_
          rintro _ _ nx6 ⟨⟨wd, rfl, wdu⟩, ⟨p6, hp6, rfl⟩, hnx6⟩
          try simp only [] at hnx6
          clear hold7
          simp only [puts_some, updo]
          refine AOPS.all (by simp (disch := first|omega|(simp only[ln];omega)) [idf_Wd', idf_numS, cells_numS, numS_fold]; rfl) ?_
          refine hK12 _ ?_
          refine AWP.ret ?_
          exact hK _ _ _ _ _ trivial ((Fin.mk (r := .agg [.int .u64 (⟨wa, wb, wc, wd⟩ : W4).a, .int .u64 (⟨wa, wb, wc, wd⟩ : W4).b, .int .u64 (⟨wa, wb, wc, wd⟩ : W4).c, .int .u64 (⟨wa, wb, wc, wd⟩ : W4).d]) (by simp (disch := omega) [aRes, aResL, aRes1, idf_Wd', idf_numS, cells_numS, numS_fold])).restr (fun i => decide (i < nx))) (⟨⟨⟨wa, wb, wc, wd⟩, rfl, ⟨wau, wbu, wcu, wdu⟩⟩, ⟨p6, hp6, by simp (disch := first | omega | (simp; done) | (simp; omega)) [hrestr_in, hrestr_out, hrestr_all hd, hupd_same]⟩, by first | omega | (simp at *; omega)⟩)
        · try simp only [decide_eq_true_eq, decide_eq_false_iff_not] at h44
          refine AWP.seqk fun K13 hK13 => ?_
          refine AWP.region (AOPS.all (by simp (disch := first|omega|(simp only[ln];omega)) [idf_Wd', idf_numS, cells_numS, numS_fold]; rfl) ?_)
          refine hK13 _ ?_
          refine cond_ok (k == 4) (by simp (disch := first|omega|(simp only[ln];omega))) (fun h55 => ?_) (fun h55 => ?_)
          · try simp only [decide_eq_true_eq, decide_eq_false_iff_not] at h55
            refine AWP.seqk fun K14 hK14 => ?_
            refine AWP.region ?_
            refine AOPS.runk 1 (by simp (disch := first|omega|(simp only[ln];omega)) [List.take_succ_cons, List.take_zero, idf_Wd', idf_numS, cells_numS, numS_fold, IntKind.bits]; rfl) ?_
            simp only [List.drop_succ_cons, List.drop_zero]
            refine AOPS.old fun hold1 => ?_
            refine AOPS.acall (word_ac l p2 id _ _ dl hl hp2 (by simp (disch := omega) [hH]) hold1) rfl rfl rfl hb163 (by simp (disch := first|omega|(simp only[ln];omega)) [idf_Wd', IntKind.bits, idf_numS, cells_numS, numS_fold]) (by simp (disch := first|omega|(simp only[ln];omega)) [IntKind.bits]) (by simp) ?_
            rintro _ _ nx3 ⟨⟨wa, rfl, wau⟩, ⟨p3, hp3, rfl⟩, hnx3⟩
            try simp only [] at hnx3
            clear hold1
            simp only [puts_some, updo]
            refine AOPS.runk 1 (by simp (disch := first|omega|(simp only[ln];omega)) [List.take_succ_cons, List.take_zero, idf_Wd', idf_numS, cells_numS, numS_fold, IntKind.bits]; rfl) ?_
            simp only [List.drop_succ_cons, List.drop_zero]
            refine AOPS.old fun hold3 => ?_
            refine AOPS.acall (below_ac 64 (by omega) (by omega) l p3 id _ _ dl hl hp3 (by simp (disch := omega) [hH]) hold3) rfl rfl rfl hb159 (by simp (disch := first|omega|(simp only[ln];omega)) [idf_Wd', IntKind.bits, idf_numS, cells_numS, numS_fold]) (by simp (disch := first|omega|(simp only[ln];omega)) [IntKind.bits]) (by simp) ?_
            rintro _ _ nx4 ⟨⟨k9, rfl, k90, k91⟩, ⟨p4, hp4, rfl⟩, hnx4⟩
            try simp only [] at hnx4
            clear hold3
            obtain ⟨K9, rfl⟩ := Int.eq_ofNat_of_zero_le k90
            have us := shr_U64 wau K9
            simp only [puts_some, updo]
            refine AOPS.runk 3 (by simp (disch := first|omega|(simp only[ln];omega)) [List.take_succ_cons, List.take_zero, idf_Wd', idf_numS, cells_numS, numS_fold, IntKind.bits]; rfl) ?_
            simp only [List.drop_succ_cons, List.drop_zero]
            refine AOPS.old fun hold7 => ?_
            refine AOPS.acall (word_ac l p4 id _ _ dl hl hp4 (by simp (disch := omega) [hH]) hold7) rfl rfl rfl hb163 (by simp (disch := first|omega|(simp only[ln];omega)) [idf_Wd', IntKind.bits, idf_numS, cells_numS, numS_fold]) (by simp (disch := first|omega|(simp only[ln];omega)) [IntKind.bits]) (by simp) ?_
            rintro _ _ nx5 ⟨⟨wb, rfl, wbu⟩, ⟨p5, hp5, rfl⟩, hnx5⟩
            try simp only [] at hnx5
            clear hold7
            simp only [puts_some, updo]
            refine AOPS.all (by simp (disch := first|omega|(simp only[ln];omega)) [idf_Wd', idf_numS, cells_numS, numS_fold, IntKind.bits]; rfl) ?_
            refine hK14 _ ?_
            refine AWP.ret ?_
            exact hK _ _ _ _ _ trivial ((Fin.mk (r := .agg [.int .u64 (⟨0, 0, wa.fdiv (2 ^ K9), wb⟩ : W4).a, .int .u64 (⟨0, 0, wa.fdiv (2 ^ K9), wb⟩ : W4).b, .int .u64 (⟨0, 0, wa.fdiv (2 ^ K9), wb⟩ : W4).c, .int .u64 (⟨0, 0, wa.fdiv (2 ^ K9), wb⟩ : W4).d]) (by simp (disch := omega) [aRes, aResL, aRes1, idf_Wd', idf_numS, cells_numS, numS_fold])).restr (fun i => decide (i < nx))) (⟨⟨⟨0, 0, wa.fdiv (2 ^ K9), wb⟩, rfl, ⟨by unfold U64; simp, by unfold U64; simp, us, wbu⟩⟩, ⟨p5, hp5, by simp (disch := first | omega | (simp; done) | (simp; omega)) [hrestr_in, hrestr_out, hrestr_all hd, hupd_same]⟩, by first | omega | (simp at *; omega)⟩)
          · try simp only [decide_eq_true_eq, decide_eq_false_iff_not] at h55
            refine AWP.seqk fun K15 hK15 => ?_
            refine AWP.region (AOPS.all (by simp (disch := first|omega|(simp only[ln];omega)) [idf_Wd', idf_numS, cells_numS, numS_fold]; rfl) ?_)
            refine hK15 _ ?_
            refine cond_ok (k == 5) (by simp (disch := first|omega|(simp only[ln];omega))) (fun h66 => ?_) (fun h66 => ?_)
            · try simp only [decide_eq_true_eq, decide_eq_false_iff_not] at h66
              refine AWP.seqk fun K16 hK16 => ?_
              refine AWP.region ?_
              refine AOPS.runk 1 (by simp (disch := first|omega|(simp only[ln];omega)) [List.take_succ_cons, List.take_zero, idf_Wd', idf_numS, cells_numS, numS_fold]; rfl) ?_
              simp only [List.drop_succ_cons, List.drop_zero]
              refine AOPS.old fun hold1 => ?_
              refine AOPS.acall (word_ac l p2 id _ _ dl hl hp2 (by simp (disch := omega) [hH]) hold1) rfl rfl rfl hb163 (by simp (disch := first|omega|(simp only[ln];omega)) [idf_Wd', idf_numS, cells_numS, numS_fold]) (by simp (disch := first|omega|(simp only[ln];omega))) (by simp) ?_
              rintro _ _ nx3 ⟨⟨wa, rfl, wau⟩, ⟨p3, hp3, rfl⟩, hnx3⟩
              try simp only [] at hnx3
              clear hold1
              have ia := wrap_I64 wa
              simp only [puts_some, updo]
              refine AOPS.runk 1 (by simp (disch := first|omega|(simp only[ln];omega)) [List.take_succ_cons, List.take_zero, idf_Wd', idf_numS, cells_numS, numS_fold]; rfl) ?_
              simp only [List.drop_succ_cons, List.drop_zero]
              refine AOPS.fcall (l1Int_fc (IntKind.i64.wrap wa) ia.1 ia.2) rfl rfl rfl hb106 (by simp (disch := first|omega|(simp only[ln];omega)) [idf_Wd', idf_numS, cells_numS, numS_fold]) (by simp (disch := first|omega|(simp only[ln];omega))) (by simp) ?_
              simp only [puts_some, updo]
              refine AOPS.runk 1 (by simp (disch := first|omega|(simp only[ln];omega)) [List.take_succ_cons, List.take_zero, idf_Wd', idf_numS, cells_numS, numS_fold]; rfl) ?_
              simp only [List.drop_succ_cons, List.drop_zero]
              refine AOPS.old fun hold5 => ?_
              refine AOPS.acall (word_ac l p3 id _ _ dl hl hp3 (by simp (disch := omega) [hH]) hold5) rfl rfl rfl hb163 (by simp (disch := first|omega|(simp only[ln];omega)) [idf_Wd', idf_numS, cells_numS, numS_fold]) (by simp (disch := first|omega|(simp only[ln];omega))) (by simp) ?_
              rintro _ _ nx4 ⟨⟨wb, rfl, wbu⟩, ⟨p4, hp4, rfl⟩, hnx4⟩
              try simp only [] at hnx4
              clear hold5
              have ib := wrap_I64 wb
              have bAB := (Bg.i64 ia.1 ia.2).mul (Bg.i64 ib.1 ib.2)
              have hWd := l1Wide_fc bAB (by omega)
              rw [wdT_l] at hWd
              unfold W4.l at hWd
              simp only [puts_some, updo]
              refine AOPS.runk 1 (by simp (disch := first|omega|(simp only[ln];omega)) [List.take_succ_cons, List.take_zero, idf_Wd', idf_numS, cells_numS, numS_fold]; rfl) ?_
              simp only [List.drop_succ_cons, List.drop_zero]
              refine AOPS.fcall (l1Int_fc (IntKind.i64.wrap wb) ib.1 ib.2) rfl rfl rfl hb106 (by simp (disch := first|omega|(simp only[ln];omega)) [idf_Wd', idf_numS, cells_numS, numS_fold]) (by simp (disch := first|omega|(simp only[ln];omega))) (by simp) ?_
              simp only [puts_some, updo]
              refine AOPS.fcall (l1Mul_fc (Bg.i64 ia.1 ia.2) (Bg.i64 ib.1 ib.2) (by omega) (by omega)) rfl rfl rfl hb105 (by simp (disch := first|omega|(simp only[ln];omega)) [idf_Wd', idf_numS, cells_numS, numS_fold]) (by simp (disch := first|omega|(simp only[ln];omega))) (by simp) ?_
              simp only [puts_some, updo]
              refine AOPS.fcall (hWd) rfl rfl rfl hb192 (by simp (disch := first|omega|(simp only[ln];omega)) [idf_Wd', idf_numS, cells_numS, numS_fold]) (by simp (disch := first|omega|(simp only[ln];omega))) (by simp) ?_
              simp only [puts_some, updo]
              refine AOPS.all (by simp (disch := first|omega|(simp only[ln];omega)) [idf_Wd', idf_numS, cells_numS, numS_fold]; rfl) ?_
              refine hK16 _ ?_
              refine AWP.seqk fun K17 hK17 => ?_
              refine AWP.region (AOPS.all (by simp (disch := first|omega|(simp only[ln];omega)) [idf_Wd', idf_numS, cells_numS, numS_fold]; rfl) ?_)
              refine hK17 _ ?_
              refine AWP.ret ?_
              exact hK _ _ _ _ _ trivial ((Fin.mk (r := .agg [.int .u64 (W4z (IntKind.i64.wrap wa * IntKind.i64.wrap wb)).a, .int .u64 (W4z (IntKind.i64.wrap wa * IntKind.i64.wrap wb)).b, .int .u64 (W4z (IntKind.i64.wrap wa * IntKind.i64.wrap wb)).c, .int .u64 (W4z (IntKind.i64.wrap wa * IntKind.i64.wrap wb)).d]) (by simp (disch := omega) [aRes, aResL, aRes1, idf_Wd', idf_numS, cells_numS, numS_fold])).restr (fun i => decide (i < nx))) (⟨⟨W4z (IntKind.i64.wrap wa * IntKind.i64.wrap wb), rfl, W4z_ok _⟩, ⟨p4, hp4, by simp (disch := first | omega | (simp; done) | (simp; omega)) [hrestr_in, hrestr_out, hrestr_all hd, hupd_same]⟩, by first | omega | (simp at *; omega)⟩)
            · try simp only [decide_eq_true_eq, decide_eq_false_iff_not] at h66
              refine AWP.skip ?_
              refine hK2 _ ?_
              refine AWP.seqk fun K18 hK18 => ?_
              refine AWP.region ?_
              refine AOPS.runk 1 (by simp (disch := first|omega|(simp only[ln];omega)) [List.take_succ_cons, List.take_zero, idf_Wd', idf_numS, cells_numS, numS_fold]; rfl) ?_
              simp only [List.drop_succ_cons, List.drop_zero]
              refine AOPS.old fun hold1 => ?_
              refine AOPS.acall (near_ac (-60) (60) (by omega) (by omega) (by omega) l p2 id _ _ dl hl hp2 (by simp (disch := omega) [hH]) hold1) rfl rfl rfl hb164 (by simp (disch := first|omega|(simp only[ln];omega)) [idf_Wd', idf_numS, cells_numS, numS_fold]) (by simp (disch := first|omega|(simp only[ln];omega))) (by simp) ?_
              rintro _ _ nx3 ⟨⟨kn, rfl, kn0, kn1⟩, ⟨p3, hp3, rfl⟩, hnx3⟩
              try simp only [] at hnx3
              clear hold1
              simp only [puts_some, updo]
              refine AOPS.fcall (wideOfS_fc kn (by omega) (by omega)) rfl rfl rfl hb162 (by simp (disch := first|omega|(simp only[ln];omega)) [idf_Wd', idf_numS, cells_numS, numS_fold]) (by simp (disch := first|omega|(simp only[ln];omega))) (by simp) ?_
              simp only [puts_some, updo]
              refine AOPS.all (by simp (disch := first|omega|(simp only[ln];omega)) [idf_Wd', idf_numS, cells_numS, numS_fold]; rfl) ?_
              refine hK18 _ ?_
              refine AWP.ret ?_
              exact hK _ _ _ _ _ trivial ((Fin.mk (r := .agg [.int .u64 (W4z kn).a, .int .u64 (W4z kn).b, .int .u64 (W4z kn).c, .int .u64 (W4z kn).d]) (by simp (disch := omega) [aRes, aResL, aRes1, idf_Wd', idf_numS, cells_numS, numS_fold])).restr (fun i => decide (i < nx))) (⟨⟨W4z kn, rfl, W4z_ok _⟩, ⟨p3, hp3, by simp (disch := first | omega | (simp; done) | (simp; omega)) [hrestr_in, hrestr_out, hrestr_all hd, hupd_same]⟩, by first | omega | (simp at *; omega)⟩)

end Go.Proofs.Ytmaebeknmiomnaa

/- Walks: drawn points. -/
namespace Go.Proofs.Ytmaebeknmiomnaa
open Go Go.RowKit
set_option linter.unusedSimpArgs false
set_option linter.unusedVariables false
set_option maxRecDepth 100000
attribute [local simp] List.getElem?_cons_zero List.getElem?_cons_succ List.getElem?_toArray runOps stepOp.eq_def agd.eq_def dstOk.eq_def opVal.eq_def opNew.eq_def opSto.eq_def ev.eq_def cv.eq_def puts_some puts_none upd_ap lst.eq_def aBin.eq_def aUn.eq_def aBi_str aBi_isl aBi_osl aBi_nsl aBi_max aBi_min aBi_max3 aConv.eq_def aLd.eq_def aLoad.eq_def aField.eq_def aFld.eq_def aIdx_isl aIdx_osl aSlc_isl aSlc_osl aSlc_str aSlc_nsl bnd.eq_def evs_nil evs_cons aBuild.eq_def aFill splice.eq_def cells_agg cells_int cells_bool cells_str cells_nil cells_nsl cells_isl cells_osl cells_ptr cells_ip cells_fn cells_Wd one_int one_bool one_str one_nil one_nsl one_isl one_osl one_ptr one_ip one_fn one_Wd aSets hupd_eq hupd_ne wrap_i64s wrap_u64s wrap_u32s wrap_u8s wd_getD wd_set wd_len wd_replicate wd_one wd_fold fz_osl hupd_same aSix.eq_def aEqS.eq_def aEqB_bool aEqB_nsl aEqB_nil
attribute [local simp] szT2 byT2 agT2 unT2 zoT2 szT3 byT3 agT3 unT3 zoT3 szT22 byT22 agT22 elT22 unT22 zoT22 szT24 byT24 agT24 unT24 zoT24 szT26 byT26 agT26 flT26 fdT26_0 fdT26_1 fdT26_2 fdT26_3 zoT26 szT28 byT28 agT28 flT28 fdT28_0 fdT28_1 fdT28_2 zoT28 szT67 byT67 agT67 flT67 fdT67_0 fdT67_1 zoT67 szT190 byT190 agT190 flT190 fdT190_0 fdT190_1 zoT190

set_option maxHeartbeats 8000000 in
theorem point_ac (l : List Int) (p id : Nat) (H : Heap) (nx : Nat) (dl : Dig 256 l) (hl : l.length ≤ 1048576) (hp : p ≤ l.length) (hH : H id = some (2, [[Wd .u8 l, .int .i64 (p : Int)]])) (hd : ∀ i q, H i = some q → i < nx) : ACall Try.prog 77 [.ptr id 0 0] H nx (fun r H' nx' => (∃ x : Pt, r = .agg [.int .u64 (x).x.a, .int .u64 (x).x.b, .int .u64 (x).x.c, .int .u64 (x).x.d, .int .u64 (x).y.a, .int .u64 (x).y.b, .int .u64 (x).y.c, .int .u64 (x).y.d, .int .u64 (x).w.a, .int .u64 (x).w.b, .int .u64 (x).w.c, .int .u64 (x).w.d] ∧ x.ok) ∧ (∃ p' : Nat, p' ≤ l.length ∧ H' = hupd H id (some (2, [[Wd .u8 l, .int .i64 (p' : Int)]]))) ∧ nx ≤ nx') := by
  have hid := hd id _ hH
  have hfd : ∀ x : Int, x.fdiv 2 = x / 2 := fun x => Int.fdiv_eq_ediv_of_nonneg _ (by omega)
  refine ACall.body Try.func77 rfl 84 rfl fun K hK => ?_
  refine AWP.seqk fun K1 hK1 => ?_
  refine AWP.region (AOPS.all (by simp (disch := first|omega|(simp only[ln];omega)) [idf_Wd']; rfl) ?_)
  refine hK1 _ ?_
  refine AWP.seqk fun K2 hK2 => ?_
  refine AWP.seqk fun K3 hK3 => ?_
  refine AWP.region ?_
  refine AOPS.runk 1 (by simp (disch := first|omega|(simp only[ln];omega)) [List.take_succ_cons, List.take_zero, idf_Wd', hH]; rfl) ?_
  simp only [List.drop_succ_cons, List.drop_zero]
  refine AOPS.old fun hold1 => ?_
  refine AOPS.acall (below_ac 10 (by omega) (by omega) l p id _ _ dl hl hp (by simp (disch := omega) [hH]) hold1) rfl rfl rfl hb159 (by simp (disch := first|omega|(simp only[ln];omega)) [idf_Wd', hH]) (by simp (disch := first|omega|(simp only[ln];omega)) [hH]) (by simp) ?_
  rintro _ _ nx2 ⟨⟨k, rfl, k0, k1⟩, ⟨p2, hp2, rfl⟩, hnx2⟩
  try simp only [] at hnx2
  clear hold1
  simp only [puts_some, updo]
  refine AOPS.nil ?_
  refine hK3 _ ?_
  refine AWP.block ?_
  refine AWP.seqk fun K4 hK4 => ?_
  refine AWP.region (AOPS.all (by simp (disch := first|omega|(simp only[ln];omega)) [idf_Wd']; rfl) ?_)
  refine hK4 _ ?_
  refine cond_ok _ (by simp (disch := first|omega|(simp only[ln];omega)); rfl) (fun h11 => ?_) (fun h11 => ?_)
  · try simp only [decide_eq_true_eq, decide_eq_false_iff_not] at h11
    refine AWP.seqk fun K5 hK5 => ?_
    refine AWP.region ?_
    refine AOPS.runk 1 (by simp (disch := first|omega|(simp only[ln];omega)) [List.take_succ_cons, List.take_zero, idf_Wd']; rfl) ?_
    simp only [List.drop_succ_cons, List.drop_zero]
    refine AOPS.old fun hold1 => ?_
    refine AOPS.acall (wide_ac l p2 id _ _ dl hl hp2 (by simp (disch := omega) [hH]) hold1) rfl rfl rfl hb161 (by simp (disch := first|omega|(simp only[ln];omega)) [idf_Wd']) (by simp (disch := first|omega|(simp only[ln];omega))) (by simp) ?_
    rintro _ _ nx3 ⟨⟨xa, rfl, xao⟩, ⟨p3, hp3, rfl⟩, hnx3⟩
    try simp only [] at hnx3
    clear hold1
    simp only [puts_some, updo]
    refine AOPS.runk 1 (by simp (disch := first|omega|(simp only[ln];omega)) [List.take_succ_cons, List.take_zero, idf_Wd']; rfl) ?_
    simp only [List.drop_succ_cons, List.drop_zero]
    refine AOPS.old fun hold3 => ?_
    refine AOPS.acall (wide_ac l p3 id _ _ dl hl hp3 (by simp (disch := omega) [hH]) hold3) rfl rfl rfl hb161 (by simp (disch := first|omega|(simp only[ln];omega)) [idf_Wd']) (by simp (disch := first|omega|(simp only[ln];omega))) (by simp) ?_
    rintro _ _ nx4 ⟨⟨xb, rfl, xbo⟩, ⟨p4, hp4, rfl⟩, hnx4⟩
    try simp only [] at hnx4
    clear hold3
    simp only [puts_some, updo]
    refine AOPS.runk 1 (by simp (disch := first|omega|(simp only[ln];omega)) [List.take_succ_cons, List.take_zero, idf_Wd']; rfl) ?_
    simp only [List.drop_succ_cons, List.drop_zero]
    refine AOPS.old fun hold5 => ?_
    refine AOPS.acall (wide_ac l p4 id _ _ dl hl hp4 (by simp (disch := omega) [hH]) hold5) rfl rfl rfl hb161 (by simp (disch := first|omega|(simp only[ln];omega)) [idf_Wd']) (by simp (disch := first|omega|(simp only[ln];omega))) (by simp) ?_
    rintro _ _ nx5 ⟨⟨xc, rfl, xco⟩, ⟨p5, hp5, rfl⟩, hnx5⟩
    try simp only [] at hnx5
    clear hold5
    simp only [puts_some, updo]
    refine AOPS.fcall (pointMakeS_fc xa xb xc xao xbo xco) rfl rfl rfl hb160 (by simp (disch := first|omega|(simp only[ln];omega)) [idf_Wd']) (by simp (disch := first|omega|(simp only[ln];omega))) (by simp) ?_
    simp only [puts_some, updo]
    refine AOPS.all (by simp (disch := first|omega|(simp only[ln];omega)) [idf_Wd']; rfl) ?_
    refine hK5 _ ?_
    refine AWP.seqk fun K6 hK6 => ?_
    refine AWP.region (AOPS.all (by simp (disch := first|omega|(simp only[ln];omega)) [idf_Wd']; rfl) ?_)
    refine hK6 _ ?_
    refine AWP.ret ?_
    exact hK _ _ _ _ _ trivial ((Fin.mk (r := .agg [.int .u64 (mkP xa.v xb.v xc.v).x.a, .int .u64 (mkP xa.v xb.v xc.v).x.b, .int .u64 (mkP xa.v xb.v xc.v).x.c, .int .u64 (mkP xa.v xb.v xc.v).x.d, .int .u64 (mkP xa.v xb.v xc.v).y.a, .int .u64 (mkP xa.v xb.v xc.v).y.b, .int .u64 (mkP xa.v xb.v xc.v).y.c, .int .u64 (mkP xa.v xb.v xc.v).y.d, .int .u64 (mkP xa.v xb.v xc.v).w.a, .int .u64 (mkP xa.v xb.v xc.v).w.b, .int .u64 (mkP xa.v xb.v xc.v).w.c, .int .u64 (mkP xa.v xb.v xc.v).w.d]) (by simp (disch := omega) [aRes, aResL, aRes1, idf_Wd'])).restr (fun i => decide (i < nx))) (⟨⟨mkP xa.v xb.v xc.v, rfl, mkP_ok _ _ _⟩, ⟨p5, hp5, by simp (disch := first | omega | (simp; done) | (simp; omega)) [hrestr_in, hrestr_out, hrestr_all hd, hupd_same]⟩, by first | omega | (simp at *; omega)⟩)
  · try simp only [decide_eq_true_eq, decide_eq_false_iff_not] at h11
    refine AWP.seqk fun K7 hK7 => ?_
    refine AWP.region (AOPS.all (by simp (disch := first|omega|(simp only[ln];omega)) [idf_Wd']; rfl) ?_)
    refine hK7 _ ?_
    refine cond_ok _ (by simp (disch := first|omega|(simp only[ln];omega)); rfl) (fun h24 => ?_) (fun h24 => ?_)
    · try simp only [decide_eq_true_eq, decide_eq_false_iff_not] at h24
      refine AWP.seqk fun K8 hK8 => ?_
      refine AWP.seqk fun K9 hK9 => ?_
      refine AWP.region ?_
      refine AOPS.runk 1 (by simp (disch := first|omega|(simp only[ln];omega)) [List.take_succ_cons, List.take_zero, idf_Wd']; rfl) ?_
      simp only [List.drop_succ_cons, List.drop_zero]
      refine AOPS.old fun hold1 => ?_
      refine AOPS.acall (once_ac 4 (by omega) (by omega) l p2 id _ _ dl hl hp2 (by simp (disch := omega) [hH]) hold1) rfl rfl rfl hb78 (by simp (disch := first|omega|(simp only[ln];omega)) [idf_Wd']) (by simp (disch := first|omega|(simp only[ln];omega))) (by simp) ?_
      rintro _ _ nx3 ⟨⟨b, rfl⟩, ⟨p3, hp3, rfl⟩, hnx3⟩
      try simp only [] at hnx3
      clear hold1
      simp only [puts_some, updo]
      refine AOPS.nil ?_
      refine hK9 _ ?_
      refine cond_ok (b) (by simp (disch := first|omega|(simp only[ln];omega))) (fun h27 => ?_) (fun h27 => ?_)
      · try simp only [decide_eq_true_eq, decide_eq_false_iff_not] at h27
        refine AWP.seqk fun K10 hK10 => ?_
        refine AWP.region ?_
        refine AOPS.runk 1 (by simp (disch := first|omega|(simp only[ln];omega)) [List.take_succ_cons, List.take_zero, idf_Wd']; rfl) ?_
        simp only [List.drop_succ_cons, List.drop_zero]
        refine AOPS.old fun hold1 => ?_
        refine AOPS.acall (wide_ac l p3 id _ _ dl hl hp3 (by simp (disch := omega) [hH]) hold1) rfl rfl rfl hb161 (by simp (disch := first|omega|(simp only[ln];omega)) [idf_Wd']) (by simp (disch := first|omega|(simp only[ln];omega))) (by simp) ?_
        rintro _ _ nx4 ⟨⟨xa, rfl, xao⟩, ⟨p4, hp4, rfl⟩, hnx4⟩
        try simp only [] at hnx4
        clear hold1
        simp only [puts_some, updo]
        refine AOPS.runk 1 (by simp (disch := first|omega|(simp only[ln];omega)) [List.take_succ_cons, List.take_zero, idf_Wd']; rfl) ?_
        simp only [List.drop_succ_cons, List.drop_zero]
        refine AOPS.old fun hold3 => ?_
        refine AOPS.acall (wide_ac l p4 id _ _ dl hl hp4 (by simp (disch := omega) [hH]) hold3) rfl rfl rfl hb161 (by simp (disch := first|omega|(simp only[ln];omega)) [idf_Wd']) (by simp (disch := first|omega|(simp only[ln];omega))) (by simp) ?_
        rintro _ _ nx5 ⟨⟨xb, rfl, xbo⟩, ⟨p5, hp5, rfl⟩, hnx5⟩
        try simp only [] at hnx5
        clear hold3
        simp only [puts_some, updo]
        refine AOPS.runk 1 (by simp (disch := first|omega|(simp only[ln];omega)) [List.take_succ_cons, List.take_zero, idf_Wd']; rfl) ?_
        simp only [List.drop_succ_cons, List.drop_zero]
        refine AOPS.old fun hold5 => ?_
        refine AOPS.acall (wide_ac l p5 id _ _ dl hl hp5 (by simp (disch := omega) [hH]) hold5) rfl rfl rfl hb161 (by simp (disch := first|omega|(simp only[ln];omega)) [idf_Wd']) (by simp (disch := first|omega|(simp only[ln];omega))) (by simp) ?_
        rintro _ _ nx6 ⟨⟨xc, rfl, xco⟩, ⟨p6, hp6, rfl⟩, hnx6⟩
        try simp only [] at hnx6
        clear hold5
        simp only [puts_some, updo]
        refine AOPS.all (by simp (disch := first|omega|(simp only[ln];omega)) [idf_Wd']; rfl) ?_
        refine hK10 _ ?_
        refine AWP.ret ?_
        exact hK _ _ _ _ _ trivial ((Fin.mk (r := .agg [.int .u64 ((⟨xa, xb, xc⟩ : Pt)).x.a, .int .u64 ((⟨xa, xb, xc⟩ : Pt)).x.b, .int .u64 ((⟨xa, xb, xc⟩ : Pt)).x.c, .int .u64 ((⟨xa, xb, xc⟩ : Pt)).x.d, .int .u64 ((⟨xa, xb, xc⟩ : Pt)).y.a, .int .u64 ((⟨xa, xb, xc⟩ : Pt)).y.b, .int .u64 ((⟨xa, xb, xc⟩ : Pt)).y.c, .int .u64 ((⟨xa, xb, xc⟩ : Pt)).y.d, .int .u64 ((⟨xa, xb, xc⟩ : Pt)).w.a, .int .u64 ((⟨xa, xb, xc⟩ : Pt)).w.b, .int .u64 ((⟨xa, xb, xc⟩ : Pt)).w.c, .int .u64 ((⟨xa, xb, xc⟩ : Pt)).w.d]) (by simp (disch := omega) [aRes, aResL, aRes1, idf_Wd'])).restr (fun i => decide (i < nx))) (⟨⟨(⟨xa, xb, xc⟩ : Pt), rfl, ⟨xao, xbo, xco⟩⟩, ⟨p6, hp6, by simp (disch := first | omega | (simp; done) | (simp; omega)) [hrestr_in, hrestr_out, hrestr_all hd, hupd_same]⟩, by first | omega | (simp at *; omega)⟩)
      · try simp only [decide_eq_true_eq, decide_eq_false_iff_not] at h27
        refine AWP.skip ?_
        refine hK8 _ ?_
        refine AWP.seqk fun K11 hK11 => ?_
        refine AWP.region ?_
        refine AOPS.runk 1 (by simp (disch := first|omega|(simp only[ln];omega)) [List.take_succ_cons, List.take_zero, idf_Wd', IntKind.bits, hfd]; rfl) ?_
        simp only [List.drop_succ_cons, List.drop_zero]
        refine AOPS.old fun hold1 => ?_
        refine AOPS.acall (word_ac l p3 id _ _ dl hl hp3 (by simp (disch := omega) [hH]) hold1) rfl rfl rfl hb163 (by simp (disch := first|omega|(simp only[ln];omega)) [idf_Wd', IntKind.bits, hfd]) (by simp (disch := first|omega|(simp only[ln];omega)) [IntKind.bits, hfd]) (by simp) ?_
        rintro _ _ nx4 ⟨⟨wa, rfl, wau⟩, ⟨p4, hp4, rfl⟩, hnx4⟩
        try simp only [] at hnx4
        clear hold1
        have ia := wrap_I64 wa
        simp only [puts_some, updo]
        refine AOPS.runk 1 (by simp (disch := first|omega|(simp only[ln];omega)) [List.take_succ_cons, List.take_zero, idf_Wd', IntKind.bits, hfd]; rfl) ?_
        simp only [List.drop_succ_cons, List.drop_zero]
        refine AOPS.fcall (wideOfS_fc (IntKind.i64.wrap wa) ia.1 ia.2) rfl rfl rfl hb162 (by simp (disch := first|omega|(simp only[ln];omega)) [idf_Wd', IntKind.bits, hfd]) (by simp (disch := first|omega|(simp only[ln];omega)) [IntKind.bits, hfd]) (by simp) ?_
        simp only [puts_some, updo]
        refine AOPS.runk 1 (by simp (disch := first|omega|(simp only[ln];omega)) [List.take_succ_cons, List.take_zero, idf_Wd', IntKind.bits, hfd]; rfl) ?_
        simp only [List.drop_succ_cons, List.drop_zero]
        refine AOPS.old fun hold5 => ?_
        refine AOPS.acall (word_ac l p4 id _ _ dl hl hp4 (by simp (disch := omega) [hH]) hold5) rfl rfl rfl hb163 (by simp (disch := first|omega|(simp only[ln];omega)) [idf_Wd', IntKind.bits, hfd]) (by simp (disch := first|omega|(simp only[ln];omega)) [IntKind.bits, hfd]) (by simp) ?_
        rintro _ _ nx5 ⟨⟨wb, rfl, wbu⟩, ⟨p5, hp5, rfl⟩, hnx5⟩
        try simp only [] at hnx5
        clear hold5
        have ib := wrap_I64 wb
        simp only [puts_some, updo]
        refine AOPS.runk 1 (by simp (disch := first|omega|(simp only[ln];omega)) [List.take_succ_cons, List.take_zero, idf_Wd', IntKind.bits, hfd]; rfl) ?_
        simp only [List.drop_succ_cons, List.drop_zero]
        refine AOPS.fcall (wideOfS_fc (IntKind.i64.wrap wb) ib.1 ib.2) rfl rfl rfl hb162 (by simp (disch := first|omega|(simp only[ln];omega)) [idf_Wd', IntKind.bits, hfd]) (by simp (disch := first|omega|(simp only[ln];omega)) [IntKind.bits, hfd]) (by simp) ?_
        simp only [puts_some, updo]
        refine AOPS.runk 1 (by simp (disch := first|omega|(simp only[ln];omega)) [List.take_succ_cons, List.take_zero, idf_Wd', IntKind.bits, hfd]; rfl) ?_
        simp only [List.drop_succ_cons, List.drop_zero]
        refine AOPS.old fun hold9 => ?_
        refine AOPS.acall (word_ac l p5 id _ _ dl hl hp5 (by simp (disch := omega) [hH]) hold9) rfl rfl rfl hb163 (by simp (disch := first|omega|(simp only[ln];omega)) [idf_Wd', IntKind.bits, hfd]) (by simp (disch := first|omega|(simp only[ln];omega)) [IntKind.bits, hfd]) (by simp) ?_
        rintro _ _ nx6 ⟨⟨wc, rfl, wcu⟩, ⟨p6, hp6, rfl⟩, hnx6⟩
        try simp only [] at hnx6
        clear hold9
        have fdw : wc.fdiv 2 = wc / 2 := Int.fdiv_eq_ediv_of_nonneg _ (by omega)
        obtain ⟨wcu0, wcu1⟩ := wcu
        have ic := wrap_I64 (1 + wc / 2)
        simp only [puts_some, updo]
        refine AOPS.runk 3 (by simp (disch := first|omega|(simp only[ln];omega)) [List.take_succ_cons, List.take_zero, idf_Wd', IntKind.bits, hfd]; rfl) ?_
        simp only [List.drop_succ_cons, List.drop_zero]
        refine AOPS.fcall (wideOfS_fc (IntKind.i64.wrap (1 + wc / 2)) ic.1 ic.2) rfl rfl rfl hb162 (by simp (disch := first|omega|(simp only[ln];omega)) [idf_Wd', IntKind.bits, hfd]) (by simp (disch := first|omega|(simp only[ln];omega)) [IntKind.bits, hfd]) (by simp) ?_
        simp only [puts_some, updo]
        refine AOPS.fcall (pointMakeS_fc (W4z (IntKind.i64.wrap wa)) (W4z (IntKind.i64.wrap wb)) (W4z (IntKind.i64.wrap (1 + wc / 2))) (W4z_ok _) (W4z_ok _) (W4z_ok _)) rfl rfl rfl hb160 (by simp (disch := first|omega|(simp only[ln];omega)) [idf_Wd', IntKind.bits, hfd]) (by simp (disch := first|omega|(simp only[ln];omega)) [IntKind.bits, hfd]) (by simp) ?_
        simp only [puts_some, updo]
        refine AOPS.all (by simp (disch := first|omega|(simp only[ln];omega)) [idf_Wd', IntKind.bits, hfd]; rfl) ?_
        refine hK11 _ ?_
        refine AWP.seqk fun K12 hK12 => ?_
        refine AWP.region (AOPS.all (by simp (disch := first|omega|(simp only[ln];omega)) [idf_Wd']; rfl) ?_)
        refine hK12 _ ?_
        refine AWP.ret ?_
        exact hK _ _ _ _ _ trivial ((Fin.mk (r := .agg [.int .u64 (mkP (W4z (IntKind.i64.wrap wa)).v (W4z (IntKind.i64.wrap wb)).v (W4z (IntKind.i64.wrap (1 + wc / 2))).v).x.a, .int .u64 (mkP (W4z (IntKind.i64.wrap wa)).v (W4z (IntKind.i64.wrap wb)).v (W4z (IntKind.i64.wrap (1 + wc / 2))).v).x.b, .int .u64 (mkP (W4z (IntKind.i64.wrap wa)).v (W4z (IntKind.i64.wrap wb)).v (W4z (IntKind.i64.wrap (1 + wc / 2))).v).x.c, .int .u64 (mkP (W4z (IntKind.i64.wrap wa)).v (W4z (IntKind.i64.wrap wb)).v (W4z (IntKind.i64.wrap (1 + wc / 2))).v).x.d, .int .u64 (mkP (W4z (IntKind.i64.wrap wa)).v (W4z (IntKind.i64.wrap wb)).v (W4z (IntKind.i64.wrap (1 + wc / 2))).v).y.a, .int .u64 (mkP (W4z (IntKind.i64.wrap wa)).v (W4z (IntKind.i64.wrap wb)).v (W4z (IntKind.i64.wrap (1 + wc / 2))).v).y.b, .int .u64 (mkP (W4z (IntKind.i64.wrap wa)).v (W4z (IntKind.i64.wrap wb)).v (W4z (IntKind.i64.wrap (1 + wc / 2))).v).y.c, .int .u64 (mkP (W4z (IntKind.i64.wrap wa)).v (W4z (IntKind.i64.wrap wb)).v (W4z (IntKind.i64.wrap (1 + wc / 2))).v).y.d, .int .u64 (mkP (W4z (IntKind.i64.wrap wa)).v (W4z (IntKind.i64.wrap wb)).v (W4z (IntKind.i64.wrap (1 + wc / 2))).v).w.a, .int .u64 (mkP (W4z (IntKind.i64.wrap wa)).v (W4z (IntKind.i64.wrap wb)).v (W4z (IntKind.i64.wrap (1 + wc / 2))).v).w.b, .int .u64 (mkP (W4z (IntKind.i64.wrap wa)).v (W4z (IntKind.i64.wrap wb)).v (W4z (IntKind.i64.wrap (1 + wc / 2))).v).w.c, .int .u64 (mkP (W4z (IntKind.i64.wrap wa)).v (W4z (IntKind.i64.wrap wb)).v (W4z (IntKind.i64.wrap (1 + wc / 2))).v).w.d]) (by simp (disch := omega) [aRes, aResL, aRes1, idf_Wd'])).restr (fun i => decide (i < nx))) (⟨⟨mkP (W4z (IntKind.i64.wrap wa)).v (W4z (IntKind.i64.wrap wb)).v (W4z (IntKind.i64.wrap (1 + wc / 2))).v, rfl, mkP_ok _ _ _⟩, ⟨p6, hp6, by simp (disch := first | omega | (simp; done) | (simp; omega)) [hrestr_in, hrestr_out, hrestr_all hd, hupd_same]⟩, by first | omega | (simp at *; omega)⟩)
    · try simp only [decide_eq_true_eq, decide_eq_false_iff_not] at h24
      refine AWP.seqk fun K13 hK13 => ?_
      refine AWP.seqk fun K14 hK14 => ?_
      refine AWP.region (AOPS.all (by simp (disch := first|omega|(simp only[ln];omega)) [idf_Wd']; rfl) ?_)
      refine hK14 _ ?_
      refine cond_ok _ (by simp (disch := first|omega|(simp only[ln];omega)); rfl) (fun h54 => ?_) (fun h54 => ?_)
      · try simp only [decide_eq_true_eq, decide_eq_false_iff_not] at h54
        refine AWP.skip ?_
        refine hK13 _ ?_
        refine cond_ok _ (by simp (disch := first|omega|(simp only[ln];omega)); rfl) (fun h54 => ?_) (fun h54 => ?_)
        · try simp only [decide_eq_true_eq, decide_eq_false_iff_not] at h54
          refine AWP.seqk fun K15 hK15 => ?_
          refine AWP.region ?_
          refine AOPS.runk 1 (by simp (disch := first|omega|(simp only[ln];omega)) [List.take_succ_cons, List.take_zero, idf_Wd']; rfl) ?_
          simp only [List.drop_succ_cons, List.drop_zero]
          refine AOPS.old fun hold1 => ?_
          refine AOPS.acall (near_ac (-40) (40) (by omega) (by omega) (by omega) l p2 id _ _ dl hl hp2 (by simp (disch := omega) [hH]) hold1) rfl rfl rfl hb164 (by simp (disch := first|omega|(simp only[ln];omega)) [idf_Wd']) (by simp (disch := first|omega|(simp only[ln];omega))) (by simp) ?_
          rintro _ _ nx3 ⟨⟨na, rfl, na0, na1⟩, ⟨p3, hp3, rfl⟩, hnx3⟩
          try simp only [] at hnx3
          clear hold1
          simp only [puts_some, updo]
          refine AOPS.fcall (wideOfS_fc na (by omega) (by omega)) rfl rfl rfl hb162 (by simp (disch := first|omega|(simp only[ln];omega)) [idf_Wd']) (by simp (disch := first|omega|(simp only[ln];omega))) (by simp) ?_
          simp only [puts_some, updo]
          refine AOPS.runk 1 (by simp (disch := first|omega|(simp only[ln];omega)) [List.take_succ_cons, List.take_zero, idf_Wd']; rfl) ?_
          simp only [List.drop_succ_cons, List.drop_zero]
          refine AOPS.old fun hold4 => ?_
          refine AOPS.acall (near_ac (-40) (40) (by omega) (by omega) (by omega) l p3 id _ _ dl hl hp3 (by simp (disch := omega) [hH]) hold4) rfl rfl rfl hb164 (by simp (disch := first|omega|(simp only[ln];omega)) [idf_Wd']) (by simp (disch := first|omega|(simp only[ln];omega))) (by simp) ?_
          rintro _ _ nx4 ⟨⟨nb, rfl, nb0, nb1⟩, ⟨p4, hp4, rfl⟩, hnx4⟩
          try simp only [] at hnx4
          clear hold4
          simp only [puts_some, updo]
          refine AOPS.fcall (wideOfS_fc nb (by omega) (by omega)) rfl rfl rfl hb162 (by simp (disch := first|omega|(simp only[ln];omega)) [idf_Wd']) (by simp (disch := first|omega|(simp only[ln];omega))) (by simp) ?_
          simp only [puts_some, updo]
          refine AOPS.runk 1 (by simp (disch := first|omega|(simp only[ln];omega)) [List.take_succ_cons, List.take_zero, idf_Wd']; rfl) ?_
          simp only [List.drop_succ_cons, List.drop_zero]
          refine AOPS.old fun hold7 => ?_
          refine AOPS.acall (near_ac (0) (9) (by omega) (by omega) (by omega) l p4 id _ _ dl hl hp4 (by simp (disch := omega) [hH]) hold7) rfl rfl rfl hb164 (by simp (disch := first|omega|(simp only[ln];omega)) [idf_Wd']) (by simp (disch := first|omega|(simp only[ln];omega))) (by simp) ?_
          rintro _ _ nx5 ⟨⟨nc, rfl, nc0, nc1⟩, ⟨p5, hp5, rfl⟩, hnx5⟩
          try simp only [] at hnx5
          clear hold7
          simp only [puts_some, updo]
          refine AOPS.runk 1 (by simp (disch := first|omega|(simp only[ln];omega)) [List.take_succ_cons, List.take_zero, idf_Wd']; rfl) ?_
          simp only [List.drop_succ_cons, List.drop_zero]
          refine AOPS.fcall (wideOfS_fc (1 + nc) (by omega) (by omega)) rfl rfl rfl hb162 (by simp (disch := first|omega|(simp only[ln];omega)) [idf_Wd']) (by simp (disch := first|omega|(simp only[ln];omega))) (by simp) ?_
          simp only [puts_some, updo]
          refine AOPS.fcall (pointMakeS_fc (W4z na) (W4z nb) (W4z (1 + nc)) (W4z_ok _) (W4z_ok _) (W4z_ok _)) rfl rfl rfl hb160 (by simp (disch := first|omega|(simp only[ln];omega)) [idf_Wd']) (by simp (disch := first|omega|(simp only[ln];omega))) (by simp) ?_
          simp only [puts_some, updo]
          refine AOPS.all (by simp (disch := first|omega|(simp only[ln];omega)) [idf_Wd']; rfl) ?_
          refine hK15 _ ?_
          refine AWP.seqk fun K16 hK16 => ?_
          refine AWP.region (AOPS.all (by simp (disch := first|omega|(simp only[ln];omega)) [idf_Wd']; rfl) ?_)
          refine hK16 _ ?_
          refine AWP.ret ?_
          exact hK _ _ _ _ _ trivial ((Fin.mk (r := .agg [.int .u64 (mkP (W4z na).v (W4z nb).v (W4z (1 + nc)).v).x.a, .int .u64 (mkP (W4z na).v (W4z nb).v (W4z (1 + nc)).v).x.b, .int .u64 (mkP (W4z na).v (W4z nb).v (W4z (1 + nc)).v).x.c, .int .u64 (mkP (W4z na).v (W4z nb).v (W4z (1 + nc)).v).x.d, .int .u64 (mkP (W4z na).v (W4z nb).v (W4z (1 + nc)).v).y.a, .int .u64 (mkP (W4z na).v (W4z nb).v (W4z (1 + nc)).v).y.b, .int .u64 (mkP (W4z na).v (W4z nb).v (W4z (1 + nc)).v).y.c, .int .u64 (mkP (W4z na).v (W4z nb).v (W4z (1 + nc)).v).y.d, .int .u64 (mkP (W4z na).v (W4z nb).v (W4z (1 + nc)).v).w.a, .int .u64 (mkP (W4z na).v (W4z nb).v (W4z (1 + nc)).v).w.b, .int .u64 (mkP (W4z na).v (W4z nb).v (W4z (1 + nc)).v).w.c, .int .u64 (mkP (W4z na).v (W4z nb).v (W4z (1 + nc)).v).w.d]) (by simp (disch := omega) [aRes, aResL, aRes1, idf_Wd'])).restr (fun i => decide (i < nx))) (⟨⟨mkP (W4z na).v (W4z nb).v (W4z (1 + nc)).v, rfl, mkP_ok _ _ _⟩, ⟨p5, hp5, by simp (disch := first | omega | (simp; done) | (simp; omega)) [hrestr_in, hrestr_out, hrestr_all hd, hupd_same]⟩, by first | omega | (simp at *; omega)⟩)
        · try simp only [decide_eq_true_eq, decide_eq_false_iff_not] at h54
          refine AWP.seqk fun K17 hK17 => ?_
          refine AWP.region (AOPS.all (by simp (disch := first|omega|(simp only[ln];omega)) [idf_Wd']; rfl) ?_)
          refine hK17 _ ?_
          refine cond_ok _ (by simp (disch := first|omega|(simp only[ln];omega)); rfl) (fun h73 => ?_) (fun h73 => ?_)
          · try simp only [decide_eq_true_eq, decide_eq_false_iff_not] at h73
            refine AWP.seqk fun K18 hK18 => ?_
            refine AWP.region ?_
            refine AOPS.runk 1 (by simp (disch := first|omega|(simp only[ln];omega)) [List.take_succ_cons, List.take_zero, idf_Wd']; rfl) ?_
            simp only [List.drop_succ_cons, List.drop_zero]
            refine AOPS.old fun hold1 => ?_
            refine AOPS.acall (near_ac (-1000000) (1000000) (by omega) (by omega) (by omega) l p2 id _ _ dl hl hp2 (by simp (disch := omega) [hH]) hold1) rfl rfl rfl hb164 (by simp (disch := first|omega|(simp only[ln];omega)) [idf_Wd']) (by simp (disch := first|omega|(simp only[ln];omega))) (by simp) ?_
            rintro _ _ nx3 ⟨⟨na, rfl, na0, na1⟩, ⟨p3, hp3, rfl⟩, hnx3⟩
            try simp only [] at hnx3
            clear hold1
            simp only [puts_some, updo]
            refine AOPS.runk 1 (by simp (disch := first|omega|(simp only[ln];omega)) [List.take_succ_cons, List.take_zero, idf_Wd']; rfl) ?_
            simp only [List.drop_succ_cons, List.drop_zero]
            refine AOPS.old fun hold3 => ?_
            refine AOPS.acall (near_ac (-1000000) (1000000) (by omega) (by omega) (by omega) l p3 id _ _ dl hl hp3 (by simp (disch := omega) [hH]) hold3) rfl rfl rfl hb164 (by simp (disch := first|omega|(simp only[ln];omega)) [idf_Wd']) (by simp (disch := first|omega|(simp only[ln];omega))) (by simp) ?_
            rintro _ _ nx4 ⟨⟨nb, rfl, nb0, nb1⟩, ⟨p4, hp4, rfl⟩, hnx4⟩
            try simp only [] at hnx4
            clear hold3
            simp only [puts_some, updo]
            refine AOPS.runk 1 (by simp (disch := first|omega|(simp only[ln];omega)) [List.take_succ_cons, List.take_zero, idf_Wd']; rfl) ?_
            simp only [List.drop_succ_cons, List.drop_zero]
            refine AOPS.fcall (pointOfS_fc na nb (by omega) (by omega) (by omega) (by omega)) rfl rfl rfl hb165 (by simp (disch := first|omega|(simp only[ln];omega)) [idf_Wd']) (by simp (disch := first|omega|(simp only[ln];omega))) (by simp) ?_
            simp only [puts_some, updo]
            refine AOPS.all (by simp (disch := first|omega|(simp only[ln];omega)) [idf_Wd']; rfl) ?_
            refine hK18 _ ?_
            refine AWP.ret ?_
            exact hK _ _ _ _ _ trivial ((Fin.mk (r := .agg [.int .u64 (pt3 na nb 1).x.a, .int .u64 (pt3 na nb 1).x.b, .int .u64 (pt3 na nb 1).x.c, .int .u64 (pt3 na nb 1).x.d, .int .u64 (pt3 na nb 1).y.a, .int .u64 (pt3 na nb 1).y.b, .int .u64 (pt3 na nb 1).y.c, .int .u64 (pt3 na nb 1).y.d, .int .u64 (pt3 na nb 1).w.a, .int .u64 (pt3 na nb 1).w.b, .int .u64 (pt3 na nb 1).w.c, .int .u64 (pt3 na nb 1).w.d]) (by simp (disch := omega) [aRes, aResL, aRes1, idf_Wd'])).restr (fun i => decide (i < nx))) (⟨⟨pt3 na nb 1, rfl, pt3_ok _ _ _⟩, ⟨p4, hp4, by simp (disch := first | omega | (simp; done) | (simp; omega)) [hrestr_in, hrestr_out, hrestr_all hd, hupd_same]⟩, by first | omega | (simp at *; omega)⟩)
          · try simp only [decide_eq_true_eq, decide_eq_false_iff_not] at h73
            refine AWP.skip ?_
            refine hK2 _ ?_
            refine AWP.seqk fun K19 hK19 => ?_
            refine AWP.region ?_
            refine AOPS.runk 1 (by simp (disch := first|omega|(simp only[ln];omega)) [List.take_succ_cons, List.take_zero, idf_Wd']; rfl) ?_
            simp only [List.drop_succ_cons, List.drop_zero]
            refine AOPS.old fun hold1 => ?_
            refine AOPS.acall (spot_ac l p2 id _ _ dl hl hp2 (by simp (disch := omega) [hH]) hold1) rfl rfl rfl hb130 (by simp (disch := first|omega|(simp only[ln];omega)) [idf_Wd']) (by simp (disch := first|omega|(simp only[ln];omega))) (by simp) ?_
            rintro _ _ nx3 ⟨⟨na, nb, rfl, na0, na1, nb0, nb1⟩, ⟨p3, hp3, rfl⟩, hnx3⟩
            try simp only [] at hnx3
            clear hold1
            simp only [puts_some, updo]
            refine AOPS.fcall (pointOfS_fc na nb (by omega) (by omega) (by omega) (by omega)) rfl rfl rfl hb165 (by simp (disch := first|omega|(simp only[ln];omega)) [idf_Wd']) (by simp (disch := first|omega|(simp only[ln];omega))) (by simp) ?_
            simp only [puts_some, updo]
            refine AOPS.all (by simp (disch := first|omega|(simp only[ln];omega)) [idf_Wd']; rfl) ?_
            refine hK19 _ ?_
            refine AWP.ret ?_
            exact hK _ _ _ _ _ trivial ((Fin.mk (r := .agg [.int .u64 (pt3 na nb 1).x.a, .int .u64 (pt3 na nb 1).x.b, .int .u64 (pt3 na nb 1).x.c, .int .u64 (pt3 na nb 1).x.d, .int .u64 (pt3 na nb 1).y.a, .int .u64 (pt3 na nb 1).y.b, .int .u64 (pt3 na nb 1).y.c, .int .u64 (pt3 na nb 1).y.d, .int .u64 (pt3 na nb 1).w.a, .int .u64 (pt3 na nb 1).w.b, .int .u64 (pt3 na nb 1).w.c, .int .u64 (pt3 na nb 1).w.d]) (by simp (disch := omega) [aRes, aResL, aRes1, idf_Wd'])).restr (fun i => decide (i < nx))) (⟨⟨pt3 na nb 1, rfl, pt3_ok _ _ _⟩, ⟨p3, hp3, by simp (disch := first | omega | (simp; done) | (simp; omega)) [hrestr_in, hrestr_out, hrestr_all hd, hupd_same]⟩, by first | omega | (simp at *; omega)⟩)
      · try simp only [decide_eq_true_eq, decide_eq_false_iff_not] at h54
        refine AWP.seqk fun K20 hK20 => ?_
        refine AWP.region (AOPS.all (by simp (disch := first|omega|(simp only[ln];omega)) [idf_Wd']; rfl) ?_)
        refine hK20 _ ?_
        refine cond_ok _ (by simp (disch := first|omega|(simp only[ln];omega)); rfl) (fun h54 => ?_) (fun h54 => ?_)
        · try simp only [decide_eq_true_eq, decide_eq_false_iff_not] at h54
          refine AWP.skip ?_
          refine hK13 _ ?_
          refine cond_ok _ (by simp (disch := first|omega|(simp only[ln];omega)); rfl) (fun h54 => ?_) (fun h54 => ?_)
          · try simp only [decide_eq_true_eq, decide_eq_false_iff_not] at h54
            refine AWP.seqk fun K21 hK21 => ?_
            refine AWP.region ?_
            refine AOPS.runk 1 (by simp (disch := first|omega|(simp only[ln];omega)) [List.take_succ_cons, List.take_zero, idf_Wd']; rfl) ?_
            simp only [List.drop_succ_cons, List.drop_zero]
            refine AOPS.old fun hold1 => ?_
            refine AOPS.acall (near_ac (-40) (40) (by omega) (by omega) (by omega) l p2 id _ _ dl hl hp2 (by simp (disch := omega) [hH]) hold1) rfl rfl rfl hb164 (by simp (disch := first|omega|(simp only[ln];omega)) [idf_Wd']) (by simp (disch := first|omega|(simp only[ln];omega))) (by simp) ?_
            rintro _ _ nx3 ⟨⟨na, rfl, na0, na1⟩, ⟨p3, hp3, rfl⟩, hnx3⟩
            try simp only [] at hnx3
            clear hold1
            simp only [puts_some, updo]
            refine AOPS.fcall (wideOfS_fc na (by omega) (by omega)) rfl rfl rfl hb162 (by simp (disch := first|omega|(simp only[ln];omega)) [idf_Wd']) (by simp (disch := first|omega|(simp only[ln];omega))) (by simp) ?_
            simp only [puts_some, updo]
            refine AOPS.runk 1 (by simp (disch := first|omega|(simp only[ln];omega)) [List.take_succ_cons, List.take_zero, idf_Wd']; rfl) ?_
            simp only [List.drop_succ_cons, List.drop_zero]
            refine AOPS.old fun hold4 => ?_
            refine AOPS.acall (near_ac (-40) (40) (by omega) (by omega) (by omega) l p3 id _ _ dl hl hp3 (by simp (disch := omega) [hH]) hold4) rfl rfl rfl hb164 (by simp (disch := first|omega|(simp only[ln];omega)) [idf_Wd']) (by simp (disch := first|omega|(simp only[ln];omega))) (by simp) ?_
            rintro _ _ nx4 ⟨⟨nb, rfl, nb0, nb1⟩, ⟨p4, hp4, rfl⟩, hnx4⟩
            try simp only [] at hnx4
            clear hold4
            simp only [puts_some, updo]
            refine AOPS.fcall (wideOfS_fc nb (by omega) (by omega)) rfl rfl rfl hb162 (by simp (disch := first|omega|(simp only[ln];omega)) [idf_Wd']) (by simp (disch := first|omega|(simp only[ln];omega))) (by simp) ?_
            simp only [puts_some, updo]
            refine AOPS.runk 1 (by simp (disch := first|omega|(simp only[ln];omega)) [List.take_succ_cons, List.take_zero, idf_Wd']; rfl) ?_
            simp only [List.drop_succ_cons, List.drop_zero]
            refine AOPS.old fun hold7 => ?_
            refine AOPS.acall (near_ac (0) (9) (by omega) (by omega) (by omega) l p4 id _ _ dl hl hp4 (by simp (disch := omega) [hH]) hold7) rfl rfl rfl hb164 (by simp (disch := first|omega|(simp only[ln];omega)) [idf_Wd']) (by simp (disch := first|omega|(simp only[ln];omega))) (by simp) ?_
            rintro _ _ nx5 ⟨⟨nc, rfl, nc0, nc1⟩, ⟨p5, hp5, rfl⟩, hnx5⟩
            try simp only [] at hnx5
            clear hold7
            simp only [puts_some, updo]
            refine AOPS.runk 1 (by simp (disch := first|omega|(simp only[ln];omega)) [List.take_succ_cons, List.take_zero, idf_Wd']; rfl) ?_
            simp only [List.drop_succ_cons, List.drop_zero]
            refine AOPS.fcall (wideOfS_fc (1 + nc) (by omega) (by omega)) rfl rfl rfl hb162 (by simp (disch := first|omega|(simp only[ln];omega)) [idf_Wd']) (by simp (disch := first|omega|(simp only[ln];omega))) (by simp) ?_
            simp only [puts_some, updo]
            refine AOPS.fcall (pointMakeS_fc (W4z na) (W4z nb) (W4z (1 + nc)) (W4z_ok _) (W4z_ok _) (W4z_ok _)) rfl rfl rfl hb160 (by simp (disch := first|omega|(simp only[ln];omega)) [idf_Wd']) (by simp (disch := first|omega|(simp only[ln];omega))) (by simp) ?_
            simp only [puts_some, updo]
            refine AOPS.all (by simp (disch := first|omega|(simp only[ln];omega)) [idf_Wd']; rfl) ?_
            refine hK21 _ ?_
            refine AWP.seqk fun K22 hK22 => ?_
            refine AWP.region (AOPS.all (by simp (disch := first|omega|(simp only[ln];omega)) [idf_Wd']; rfl) ?_)
            refine hK22 _ ?_
            refine AWP.ret ?_
            exact hK _ _ _ _ _ trivial ((Fin.mk (r := .agg [.int .u64 (mkP (W4z na).v (W4z nb).v (W4z (1 + nc)).v).x.a, .int .u64 (mkP (W4z na).v (W4z nb).v (W4z (1 + nc)).v).x.b, .int .u64 (mkP (W4z na).v (W4z nb).v (W4z (1 + nc)).v).x.c, .int .u64 (mkP (W4z na).v (W4z nb).v (W4z (1 + nc)).v).x.d, .int .u64 (mkP (W4z na).v (W4z nb).v (W4z (1 + nc)).v).y.a, .int .u64 (mkP (W4z na).v (W4z nb).v (W4z (1 + nc)).v).y.b, .int .u64 (mkP (W4z na).v (W4z nb).v (W4z (1 + nc)).v).y.c, .int .u64 (mkP (W4z na).v (W4z nb).v (W4z (1 + nc)).v).y.d, .int .u64 (mkP (W4z na).v (W4z nb).v (W4z (1 + nc)).v).w.a, .int .u64 (mkP (W4z na).v (W4z nb).v (W4z (1 + nc)).v).w.b, .int .u64 (mkP (W4z na).v (W4z nb).v (W4z (1 + nc)).v).w.c, .int .u64 (mkP (W4z na).v (W4z nb).v (W4z (1 + nc)).v).w.d]) (by simp (disch := omega) [aRes, aResL, aRes1, idf_Wd'])).restr (fun i => decide (i < nx))) (⟨⟨mkP (W4z na).v (W4z nb).v (W4z (1 + nc)).v, rfl, mkP_ok _ _ _⟩, ⟨p5, hp5, by simp (disch := first | omega | (simp; done) | (simp; omega)) [hrestr_in, hrestr_out, hrestr_all hd, hupd_same]⟩, by first | omega | (simp at *; omega)⟩)
          · try simp only [decide_eq_true_eq, decide_eq_false_iff_not] at h54
            refine AWP.seqk fun K23 hK23 => ?_
            refine AWP.region (AOPS.all (by simp (disch := first|omega|(simp only[ln];omega)) [idf_Wd']; rfl) ?_)
            refine hK23 _ ?_
            refine cond_ok _ (by simp (disch := first|omega|(simp only[ln];omega)); rfl) (fun h73 => ?_) (fun h73 => ?_)
            · try simp only [decide_eq_true_eq, decide_eq_false_iff_not] at h73
              refine AWP.seqk fun K24 hK24 => ?_
              refine AWP.region ?_
              refine AOPS.runk 1 (by simp (disch := first|omega|(simp only[ln];omega)) [List.take_succ_cons, List.take_zero, idf_Wd']; rfl) ?_
              simp only [List.drop_succ_cons, List.drop_zero]
              refine AOPS.old fun hold1 => ?_
              refine AOPS.acall (near_ac (-1000000) (1000000) (by omega) (by omega) (by omega) l p2 id _ _ dl hl hp2 (by simp (disch := omega) [hH]) hold1) rfl rfl rfl hb164 (by simp (disch := first|omega|(simp only[ln];omega)) [idf_Wd']) (by simp (disch := first|omega|(simp only[ln];omega))) (by simp) ?_
              rintro _ _ nx3 ⟨⟨na, rfl, na0, na1⟩, ⟨p3, hp3, rfl⟩, hnx3⟩
              try simp only [] at hnx3
              clear hold1
              simp only [puts_some, updo]
              refine AOPS.runk 1 (by simp (disch := first|omega|(simp only[ln];omega)) [List.take_succ_cons, List.take_zero, idf_Wd']; rfl) ?_
              simp only [List.drop_succ_cons, List.drop_zero]
              refine AOPS.old fun hold3 => ?_
              refine AOPS.acall (near_ac (-1000000) (1000000) (by omega) (by omega) (by omega) l p3 id _ _ dl hl hp3 (by simp (disch := omega) [hH]) hold3) rfl rfl rfl hb164 (by simp (disch := first|omega|(simp only[ln];omega)) [idf_Wd']) (by simp (disch := first|omega|(simp only[ln];omega))) (by simp) ?_
              rintro _ _ nx4 ⟨⟨nb, rfl, nb0, nb1⟩, ⟨p4, hp4, rfl⟩, hnx4⟩
              try simp only [] at hnx4
              clear hold3
              simp only [puts_some, updo]
              refine AOPS.runk 1 (by simp (disch := first|omega|(simp only[ln];omega)) [List.take_succ_cons, List.take_zero, idf_Wd']; rfl) ?_
              simp only [List.drop_succ_cons, List.drop_zero]
              refine AOPS.fcall (pointOfS_fc na nb (by omega) (by omega) (by omega) (by omega)) rfl rfl rfl hb165 (by simp (disch := first|omega|(simp only[ln];omega)) [idf_Wd']) (by simp (disch := first|omega|(simp only[ln];omega))) (by simp) ?_
              simp only [puts_some, updo]
              refine AOPS.all (by simp (disch := first|omega|(simp only[ln];omega)) [idf_Wd']; rfl) ?_
              refine hK24 _ ?_
              refine AWP.ret ?_
              exact hK _ _ _ _ _ trivial ((Fin.mk (r := .agg [.int .u64 (pt3 na nb 1).x.a, .int .u64 (pt3 na nb 1).x.b, .int .u64 (pt3 na nb 1).x.c, .int .u64 (pt3 na nb 1).x.d, .int .u64 (pt3 na nb 1).y.a, .int .u64 (pt3 na nb 1).y.b, .int .u64 (pt3 na nb 1).y.c, .int .u64 (pt3 na nb 1).y.d, .int .u64 (pt3 na nb 1).w.a, .int .u64 (pt3 na nb 1).w.b, .int .u64 (pt3 na nb 1).w.c, .int .u64 (pt3 na nb 1).w.d]) (by simp (disch := omega) [aRes, aResL, aRes1, idf_Wd'])).restr (fun i => decide (i < nx))) (⟨⟨pt3 na nb 1, rfl, pt3_ok _ _ _⟩, ⟨p4, hp4, by simp (disch := first | omega | (simp; done) | (simp; omega)) [hrestr_in, hrestr_out, hrestr_all hd, hupd_same]⟩, by first | omega | (simp at *; omega)⟩)
            · try simp only [decide_eq_true_eq, decide_eq_false_iff_not] at h73
              refine AWP.skip ?_
              refine hK2 _ ?_
              refine AWP.seqk fun K25 hK25 => ?_
              refine AWP.region ?_
              refine AOPS.runk 1 (by simp (disch := first|omega|(simp only[ln];omega)) [List.take_succ_cons, List.take_zero, idf_Wd']; rfl) ?_
              simp only [List.drop_succ_cons, List.drop_zero]
              refine AOPS.old fun hold1 => ?_
              refine AOPS.acall (spot_ac l p2 id _ _ dl hl hp2 (by simp (disch := omega) [hH]) hold1) rfl rfl rfl hb130 (by simp (disch := first|omega|(simp only[ln];omega)) [idf_Wd']) (by simp (disch := first|omega|(simp only[ln];omega))) (by simp) ?_
              rintro _ _ nx3 ⟨⟨na, nb, rfl, na0, na1, nb0, nb1⟩, ⟨p3, hp3, rfl⟩, hnx3⟩
              try simp only [] at hnx3
              clear hold1
              simp only [puts_some, updo]
              refine AOPS.fcall (pointOfS_fc na nb (by omega) (by omega) (by omega) (by omega)) rfl rfl rfl hb165 (by simp (disch := first|omega|(simp only[ln];omega)) [idf_Wd']) (by simp (disch := first|omega|(simp only[ln];omega))) (by simp) ?_
              simp only [puts_some, updo]
              refine AOPS.all (by simp (disch := first|omega|(simp only[ln];omega)) [idf_Wd']; rfl) ?_
              refine hK25 _ ?_
              refine AWP.ret ?_
              exact hK _ _ _ _ _ trivial ((Fin.mk (r := .agg [.int .u64 (pt3 na nb 1).x.a, .int .u64 (pt3 na nb 1).x.b, .int .u64 (pt3 na nb 1).x.c, .int .u64 (pt3 na nb 1).x.d, .int .u64 (pt3 na nb 1).y.a, .int .u64 (pt3 na nb 1).y.b, .int .u64 (pt3 na nb 1).y.c, .int .u64 (pt3 na nb 1).y.d, .int .u64 (pt3 na nb 1).w.a, .int .u64 (pt3 na nb 1).w.b, .int .u64 (pt3 na nb 1).w.c, .int .u64 (pt3 na nb 1).w.d]) (by simp (disch := omega) [aRes, aResL, aRes1, idf_Wd'])).restr (fun i => decide (i < nx))) (⟨⟨pt3 na nb 1, rfl, pt3_ok _ _ _⟩, ⟨p3, hp3, by simp (disch := first | omega | (simp; done) | (simp; omega)) [hrestr_in, hrestr_out, hrestr_all hd, hupd_same]⟩, by first | omega | (simp at *; omega)⟩)
        · try simp only [decide_eq_true_eq, decide_eq_false_iff_not] at h54
          refine AWP.region (AOPS.all (by simp (disch := first|omega|(simp only[ln];omega)) [idf_Wd']; rfl) ?_)
          refine hK13 _ ?_
          refine cond_ok _ (by simp (disch := first|omega|(simp only[ln];omega)); rfl) (fun h54 => ?_) (fun h54 => ?_)
          · try simp only [decide_eq_true_eq, decide_eq_false_iff_not] at h54
            refine AWP.seqk fun K26 hK26 => ?_
            refine AWP.region ?_
            refine AOPS.runk 1 (by simp (disch := first|omega|(simp only[ln];omega)) [List.take_succ_cons, List.take_zero, idf_Wd']; rfl) ?_
            simp only [List.drop_succ_cons, List.drop_zero]
            refine AOPS.old fun hold1 => ?_
            refine AOPS.acall (near_ac (-40) (40) (by omega) (by omega) (by omega) l p2 id _ _ dl hl hp2 (by simp (disch := omega) [hH]) hold1) rfl rfl rfl hb164 (by simp (disch := first|omega|(simp only[ln];omega)) [idf_Wd']) (by simp (disch := first|omega|(simp only[ln];omega))) (by simp) ?_
            rintro _ _ nx3 ⟨⟨na, rfl, na0, na1⟩, ⟨p3, hp3, rfl⟩, hnx3⟩
            try simp only [] at hnx3
            clear hold1
            simp only [puts_some, updo]
            refine AOPS.fcall (wideOfS_fc na (by omega) (by omega)) rfl rfl rfl hb162 (by simp (disch := first|omega|(simp only[ln];omega)) [idf_Wd']) (by simp (disch := first|omega|(simp only[ln];omega))) (by simp) ?_
            simp only [puts_some, updo]
            refine AOPS.runk 1 (by simp (disch := first|omega|(simp only[ln];omega)) [List.take_succ_cons, List.take_zero, idf_Wd']; rfl) ?_
            simp only [List.drop_succ_cons, List.drop_zero]
            refine AOPS.old fun hold4 => ?_
            refine AOPS.acall (near_ac (-40) (40) (by omega) (by omega) (by omega) l p3 id _ _ dl hl hp3 (by simp (disch := omega) [hH]) hold4) rfl rfl rfl hb164 (by simp (disch := first|omega|(simp only[ln];omega)) [idf_Wd']) (by simp (disch := first|omega|(simp only[ln];omega))) (by simp) ?_
            rintro _ _ nx4 ⟨⟨nb, rfl, nb0, nb1⟩, ⟨p4, hp4, rfl⟩, hnx4⟩
            try simp only [] at hnx4
            clear hold4
            simp only [puts_some, updo]
            refine AOPS.fcall (wideOfS_fc nb (by omega) (by omega)) rfl rfl rfl hb162 (by simp (disch := first|omega|(simp only[ln];omega)) [idf_Wd']) (by simp (disch := first|omega|(simp only[ln];omega))) (by simp) ?_
            simp only [puts_some, updo]
            refine AOPS.runk 1 (by simp (disch := first|omega|(simp only[ln];omega)) [List.take_succ_cons, List.take_zero, idf_Wd']; rfl) ?_
            simp only [List.drop_succ_cons, List.drop_zero]
            refine AOPS.old fun hold7 => ?_
            refine AOPS.acall (near_ac (0) (9) (by omega) (by omega) (by omega) l p4 id _ _ dl hl hp4 (by simp (disch := omega) [hH]) hold7) rfl rfl rfl hb164 (by simp (disch := first|omega|(simp only[ln];omega)) [idf_Wd']) (by simp (disch := first|omega|(simp only[ln];omega))) (by simp) ?_
            rintro _ _ nx5 ⟨⟨nc, rfl, nc0, nc1⟩, ⟨p5, hp5, rfl⟩, hnx5⟩
            try simp only [] at hnx5
            clear hold7
            simp only [puts_some, updo]
            refine AOPS.runk 1 (by simp (disch := first|omega|(simp only[ln];omega)) [List.take_succ_cons, List.take_zero, idf_Wd']; rfl) ?_
            simp only [List.drop_succ_cons, List.drop_zero]
            refine AOPS.fcall (wideOfS_fc (1 + nc) (by omega) (by omega)) rfl rfl rfl hb162 (by simp (disch := first|omega|(simp only[ln];omega)) [idf_Wd']) (by simp (disch := first|omega|(simp only[ln];omega))) (by simp) ?_
            simp only [puts_some, updo]
            refine AOPS.fcall (pointMakeS_fc (W4z na) (W4z nb) (W4z (1 + nc)) (W4z_ok _) (W4z_ok _) (W4z_ok _)) rfl rfl rfl hb160 (by simp (disch := first|omega|(simp only[ln];omega)) [idf_Wd']) (by simp (disch := first|omega|(simp only[ln];omega))) (by simp) ?_
            simp only [puts_some, updo]
            refine AOPS.all (by simp (disch := first|omega|(simp only[ln];omega)) [idf_Wd']; rfl) ?_
            refine hK26 _ ?_
            refine AWP.seqk fun K27 hK27 => ?_
            refine AWP.region (AOPS.all (by simp (disch := first|omega|(simp only[ln];omega)) [idf_Wd']; rfl) ?_)
            refine hK27 _ ?_
            refine AWP.ret ?_
            exact hK _ _ _ _ _ trivial ((Fin.mk (r := .agg [.int .u64 (mkP (W4z na).v (W4z nb).v (W4z (1 + nc)).v).x.a, .int .u64 (mkP (W4z na).v (W4z nb).v (W4z (1 + nc)).v).x.b, .int .u64 (mkP (W4z na).v (W4z nb).v (W4z (1 + nc)).v).x.c, .int .u64 (mkP (W4z na).v (W4z nb).v (W4z (1 + nc)).v).x.d, .int .u64 (mkP (W4z na).v (W4z nb).v (W4z (1 + nc)).v).y.a, .int .u64 (mkP (W4z na).v (W4z nb).v (W4z (1 + nc)).v).y.b, .int .u64 (mkP (W4z na).v (W4z nb).v (W4z (1 + nc)).v).y.c, .int .u64 (mkP (W4z na).v (W4z nb).v (W4z (1 + nc)).v).y.d, .int .u64 (mkP (W4z na).v (W4z nb).v (W4z (1 + nc)).v).w.a, .int .u64 (mkP (W4z na).v (W4z nb).v (W4z (1 + nc)).v).w.b, .int .u64 (mkP (W4z na).v (W4z nb).v (W4z (1 + nc)).v).w.c, .int .u64 (mkP (W4z na).v (W4z nb).v (W4z (1 + nc)).v).w.d]) (by simp (disch := omega) [aRes, aResL, aRes1, idf_Wd'])).restr (fun i => decide (i < nx))) (⟨⟨mkP (W4z na).v (W4z nb).v (W4z (1 + nc)).v, rfl, mkP_ok _ _ _⟩, ⟨p5, hp5, by simp (disch := first | omega | (simp; done) | (simp; omega)) [hrestr_in, hrestr_out, hrestr_all hd, hupd_same]⟩, by first | omega | (simp at *; omega)⟩)
          · try simp only [decide_eq_true_eq, decide_eq_false_iff_not] at h54
            refine AWP.seqk fun K28 hK28 => ?_
            refine AWP.region (AOPS.all (by simp (disch := first|omega|(simp only[ln];omega)) [idf_Wd']; rfl) ?_)
            refine hK28 _ ?_
            refine cond_ok _ (by simp (disch := first|omega|(simp only[ln];omega)); rfl) (fun h73 => ?_) (fun h73 => ?_)
            · try simp only [decide_eq_true_eq, decide_eq_false_iff_not] at h73
              refine AWP.seqk fun K29 hK29 => ?_
              refine AWP.region ?_
              refine AOPS.runk 1 (by simp (disch := first|omega|(simp only[ln];omega)) [List.take_succ_cons, List.take_zero, idf_Wd']; rfl) ?_
              simp only [List.drop_succ_cons, List.drop_zero]
              refine AOPS.old fun hold1 => ?_
              refine AOPS.acall (near_ac (-1000000) (1000000) (by omega) (by omega) (by omega) l p2 id _ _ dl hl hp2 (by simp (disch := omega) [hH]) hold1) rfl rfl rfl hb164 (by simp (disch := first|omega|(simp only[ln];omega)) [idf_Wd']) (by simp (disch := first|omega|(simp only[ln];omega))) (by simp) ?_
              rintro _ _ nx3 ⟨⟨na, rfl, na0, na1⟩, ⟨p3, hp3, rfl⟩, hnx3⟩
              try simp only [] at hnx3
              clear hold1
              simp only [puts_some, updo]
              refine AOPS.runk 1 (by simp (disch := first|omega|(simp only[ln];omega)) [List.take_succ_cons, List.take_zero, idf_Wd']; rfl) ?_
              simp only [List.drop_succ_cons, List.drop_zero]
              refine AOPS.old fun hold3 => ?_
              refine AOPS.acall (near_ac (-1000000) (1000000) (by omega) (by omega) (by omega) l p3 id _ _ dl hl hp3 (by simp (disch := omega) [hH]) hold3) rfl rfl rfl hb164 (by simp (disch := first|omega|(simp only[ln];omega)) [idf_Wd']) (by simp (disch := first|omega|(simp only[ln];omega))) (by simp) ?_
              rintro _ _ nx4 ⟨⟨nb, rfl, nb0, nb1⟩, ⟨p4, hp4, rfl⟩, hnx4⟩
              try simp only [] at hnx4
              clear hold3
              simp only [puts_some, updo]
              refine AOPS.runk 1 (by simp (disch := first|omega|(simp only[ln];omega)) [List.take_succ_cons, List.take_zero, idf_Wd']; rfl) ?_
              simp only [List.drop_succ_cons, List.drop_zero]
              refine AOPS.fcall (pointOfS_fc na nb (by omega) (by omega) (by omega) (by omega)) rfl rfl rfl hb165 (by simp (disch := first|omega|(simp only[ln];omega)) [idf_Wd']) (by simp (disch := first|omega|(simp only[ln];omega))) (by simp) ?_
              simp only [puts_some, updo]
              refine AOPS.all (by simp (disch := first|omega|(simp only[ln];omega)) [idf_Wd']; rfl) ?_
              refine hK29 _ ?_
              refine AWP.ret ?_
              exact hK _ _ _ _ _ trivial ((Fin.mk (r := .agg [.int .u64 (pt3 na nb 1).x.a, .int .u64 (pt3 na nb 1).x.b, .int .u64 (pt3 na nb 1).x.c, .int .u64 (pt3 na nb 1).x.d, .int .u64 (pt3 na nb 1).y.a, .int .u64 (pt3 na nb 1).y.b, .int .u64 (pt3 na nb 1).y.c, .int .u64 (pt3 na nb 1).y.d, .int .u64 (pt3 na nb 1).w.a, .int .u64 (pt3 na nb 1).w.b, .int .u64 (pt3 na nb 1).w.c, .int .u64 (pt3 na nb 1).w.d]) (by simp (disch := omega) [aRes, aResL, aRes1, idf_Wd'])).restr (fun i => decide (i < nx))) (⟨⟨pt3 na nb 1, rfl, pt3_ok _ _ _⟩, ⟨p4, hp4, by simp (disch := first | omega | (simp; done) | (simp; omega)) [hrestr_in, hrestr_out, hrestr_all hd, hupd_same]⟩, by first | omega | (simp at *; omega)⟩)
            · try simp only [decide_eq_true_eq, decide_eq_false_iff_not] at h73
              refine AWP.skip ?_
              refine hK2 _ ?_
              refine AWP.seqk fun K30 hK30 => ?_
              refine AWP.region ?_
              refine AOPS.runk 1 (by simp (disch := first|omega|(simp only[ln];omega)) [List.take_succ_cons, List.take_zero, idf_Wd']; rfl) ?_
              simp only [List.drop_succ_cons, List.drop_zero]
              refine AOPS.old fun hold1 => ?_
              refine AOPS.acall (spot_ac l p2 id _ _ dl hl hp2 (by simp (disch := omega) [hH]) hold1) rfl rfl rfl hb130 (by simp (disch := first|omega|(simp only[ln];omega)) [idf_Wd']) (by simp (disch := first|omega|(simp only[ln];omega))) (by simp) ?_
              rintro _ _ nx3 ⟨⟨na, nb, rfl, na0, na1, nb0, nb1⟩, ⟨p3, hp3, rfl⟩, hnx3⟩
              try simp only [] at hnx3
              clear hold1
              simp only [puts_some, updo]
              refine AOPS.fcall (pointOfS_fc na nb (by omega) (by omega) (by omega) (by omega)) rfl rfl rfl hb165 (by simp (disch := first|omega|(simp only[ln];omega)) [idf_Wd']) (by simp (disch := first|omega|(simp only[ln];omega))) (by simp) ?_
              simp only [puts_some, updo]
              refine AOPS.all (by simp (disch := first|omega|(simp only[ln];omega)) [idf_Wd']; rfl) ?_
              refine hK30 _ ?_
              refine AWP.ret ?_
              exact hK _ _ _ _ _ trivial ((Fin.mk (r := .agg [.int .u64 (pt3 na nb 1).x.a, .int .u64 (pt3 na nb 1).x.b, .int .u64 (pt3 na nb 1).x.c, .int .u64 (pt3 na nb 1).x.d, .int .u64 (pt3 na nb 1).y.a, .int .u64 (pt3 na nb 1).y.b, .int .u64 (pt3 na nb 1).y.c, .int .u64 (pt3 na nb 1).y.d, .int .u64 (pt3 na nb 1).w.a, .int .u64 (pt3 na nb 1).w.b, .int .u64 (pt3 na nb 1).w.c, .int .u64 (pt3 na nb 1).w.d]) (by simp (disch := omega) [aRes, aResL, aRes1, idf_Wd'])).restr (fun i => decide (i < nx))) (⟨⟨pt3 na nb 1, rfl, pt3_ok _ _ _⟩, ⟨p3, hp3, by simp (disch := first | omega | (simp; done) | (simp; omega)) [hrestr_in, hrestr_out, hrestr_all hd, hupd_same]⟩, by first | omega | (simp at *; omega)⟩)

theorem open_ac (l : List Int) (H : Heap) (nx : Nat) : ACall Try.prog 76 [Wd .u8 l] H nx (fun r H' nx' => r = .ptr nx 0 0 ∧ H' = hupd H nx (some (2, [[Wd .u8 l, .int .i64 0]])) ∧ nx' = nx + 1) := by
  refine ACall.body Try.func76 rfl 6 rfl fun K hK => ?_
  refine AWP.seqk fun K1 hK1 => ?_
  refine AWP.region (AOPS.all (by simp (disch := first|omega|(simp only[ln];omega)) [idf_Wd']; rfl) ?_)
  refine hK1 _ ?_
  refine AWP.seqk fun K2 hK2 => ?_
  refine AWP.region (AOPS.all (by simp (disch := first|omega|(simp only[ln];omega)) [idf_Wd']; rfl) ?_)
  refine hK2 _ ?_
  refine AWP.ret ?_
  exact hK _ _ _ _ _ trivial (Fin.mk (r := .ptr nx 0 0) (by simp [aRes, aResL, aRes1, idf_Wd'])) (⟨rfl, by simp, by simp⟩)

end Go.Proofs.Ytmaebeknmiomnaa

/- Walks: FnTurns, walked. -/
namespace Go.Proofs.Ytmaebeknmiomnaa
open Go Go.RowKit
set_option linter.unusedSimpArgs false
set_option linter.unusedVariables false
set_option maxRecDepth 100000
attribute [local simp] List.getElem?_cons_zero List.getElem?_cons_succ List.getElem?_toArray runOps stepOp.eq_def agd.eq_def dstOk.eq_def opVal.eq_def opNew.eq_def opSto.eq_def ev.eq_def cv.eq_def puts_some puts_none upd_ap lst.eq_def aBin.eq_def aUn.eq_def aBi_str aBi_isl aBi_osl aBi_nsl aBi_max aBi_min aBi_max3 aConv.eq_def aLd.eq_def aLoad.eq_def aField.eq_def aFld.eq_def aIdx_isl aIdx_osl aSlc_isl aSlc_osl aSlc_str aSlc_nsl bnd.eq_def evs_nil evs_cons aBuild.eq_def aFill splice.eq_def cells_agg cells_int cells_bool cells_str cells_nil cells_nsl cells_isl cells_osl cells_ptr cells_ip cells_fn cells_Wd one_int one_bool one_str one_nil one_nsl one_isl one_osl one_ptr one_ip one_fn one_Wd aSets hupd_eq hupd_ne wrap_i64s wrap_u64s wrap_u32s wrap_u8s wd_getD wd_set wd_len wd_replicate wd_one wd_fold fz_osl hupd_same aSix.eq_def aEqS.eq_def aEqB_bool aEqB_nsl aEqB_nil
attribute [local simp] szT3 byT3 agT3 unT3 zoT3 szT5 byT5 agT5 unT5 zoT5 szT22 byT22 agT22 elT22 unT22 zoT22 szT26 byT26 agT26 flT26 fdT26_0 fdT26_1 fdT26_2 fdT26_3 zoT26 szT28 byT28 agT28 flT28 fdT28_0 fdT28_1 fdT28_2 zoT28

theorem big_fc (l : List Int) : FC Try.prog 15 [Wd .u8 l] (.bool (decide (1048576 < (l.length : Int)))) := by
  refine FC.body Try.func15 rfl (by simp [idfL, idf, idfLL_iff, idf_Wd']) (by simp [idfL, idf, idfLL_iff, idf_Wd']) 6 rfl fun nx K hK => ?_
  refine AWP.seqk fun K1 hK1 => ?_
  refine AWP.region (AOPS.all (by simp (disch := first|omega|(simp only[ln];omega)) [idf_Wd']; rfl) ?_)
  refine hK1 _ ?_
  refine AWP.seqk fun K2 hK2 => ?_
  refine AWP.region (AOPS.all (by simp (disch := first|omega|(simp only[ln];omega)) [len_Wd (P := Try.prog) #[22] rfl elT22, idf_Wd']; rfl) ?_)
  refine hK2 _ ?_
  refine AWP.ret ?_
  exact hK _ _ _ _ trivial (Fin.mk (by simp (disch := first|omega|(simp only[ln];omega)) [aRes, aResL, aRes1, idf_Wd']))

end Go.Proofs.Ytmaebeknmiomnaa

/- Walks: points in order, between, crossings (both). -/
namespace Go.Proofs.Ytmaebeknmiomnaa
open Go Go.RowKit
set_option linter.unusedSimpArgs false
set_option linter.unusedVariables false
set_option maxRecDepth 100000
attribute [local simp] List.getElem?_cons_zero List.getElem?_cons_succ List.getElem?_toArray runOps stepOp.eq_def agd.eq_def dstOk.eq_def opVal.eq_def opNew.eq_def opSto.eq_def ev.eq_def cv.eq_def puts_some puts_none upd_ap lst.eq_def aBin.eq_def aUn.eq_def aBi_str aBi_isl aBi_osl aBi_nsl aBi_max aBi_min aBi_max3 aConv.eq_def aLd.eq_def aLoad.eq_def aField.eq_def aFld.eq_def aIdx_isl aIdx_osl aSlc_isl aSlc_osl aSlc_str aSlc_nsl bnd.eq_def evs_nil evs_cons aBuild.eq_def aFill splice.eq_def cells_agg cells_int cells_bool cells_str cells_nil cells_nsl cells_isl cells_osl cells_ptr cells_ip cells_fn cells_Wd one_int one_bool one_str one_nil one_nsl one_isl one_osl one_ptr one_ip one_fn one_Wd aSets hupd_eq hupd_ne wrap_i64s wrap_u64s wrap_u32s wrap_u8s wd_getD wd_set wd_len wd_replicate wd_one wd_fold fz_osl hupd_same aSix.eq_def aEqS.eq_def aEqB_bool aEqB_nsl aEqB_nil
attribute [local simp] szT2 byT2 agT2 unT2 zoT2 szT4 byT4 agT4 unT4 zoT4 szT26 byT26 agT26 flT26 fdT26_0 fdT26_1 fdT26_2 fdT26_3 zoT26 szT28 byT28 agT28 flT28 fdT28_0 fdT28_1 fdT28_2 zoT28 szT111 byT111 agT111 elT111 unT111 zoT111 szT113 byT113 agT113 flT113 fdT113_0 fdT113_1 zoT113 szT115 byT115 agT115 flT115 fdT115_0 fdT115_1 fdT115_2 zoT115 szT117 byT117 agT117 elT117 unT117 zoT117 szT119 byT119 agT119 flT119 fdT119_0 fdT119_1 zoT119 szT121 byT121 agT121 flT121 fdT121_0 fdT121_1 fdT121_2 zoT121

theorem beqd (a b : Int) : (a == b) = decide (a = b) := by rw [Bool.eq_iff_iff]; simp
theorem eqW4n (n : Nat) (a b c d a' b' c' d' : Int) : eqW Try.prog (n + 2) 26 [.int .u64 a, .int .u64 b, .int .u64 c, .int .u64 d] [.int .u64 a', .int .u64 b', .int .u64 c', .int .u64 d'] = some ((a == a') && ((b == b') && ((c == c') && ((d == d') && true)))) := by
  have hs : Try.prog.stoodInHeld 26 = false := by kernel_rfl
  have hz : szOf Try.prog 24 = some 1 := by kernel_rfl
  have ha : aggT Try.prog 24 = some false := by kernel_rfl
  unfold eqW
  simp only [Try.underlying26, hs]
  simp [eqF, hz, ha, eqW1]
theorem eqPt (p q : Pt) : eqW Try.prog 8 28 [.int .u64 p.x.a, .int .u64 p.x.b, .int .u64 p.x.c, .int .u64 p.x.d, .int .u64 p.y.a, .int .u64 p.y.b, .int .u64 p.y.c, .int .u64 p.y.d, .int .u64 p.w.a, .int .u64 p.w.b, .int .u64 p.w.c, .int .u64 p.w.d] [.int .u64 q.x.a, .int .u64 q.x.b, .int .u64 q.x.c, .int .u64 q.x.d, .int .u64 q.y.a, .int .u64 q.y.b, .int .u64 q.y.c, .int .u64 q.y.d, .int .u64 q.w.a, .int .u64 q.w.b, .int .u64 q.w.c, .int .u64 q.w.d] = some (decide (p = q)) := by
  have hs : Try.prog.stoodInHeld 28 = false := by kernel_rfl
  have hz : szOf Try.prog 26 = some 4 := by kernel_rfl
  have ha : aggT Try.prog 26 = some true := by kernel_rfl
  unfold eqW
  simp only [Try.underlying28, hs]
  simp [eqF, hz, ha, eqW4n]
  obtain ⟨⟨a1, a2, a3, a4⟩, ⟨b1, b2, b3, b4⟩, ⟨c1, c2, c3, c4⟩⟩ := p
  obtain ⟨⟨d1, d2, d3, d4⟩, ⟨e1, e2, e3, e4⟩, ⟨f1, f2, f3, f4⟩⟩ := q
  rw [Bool.eq_iff_iff]
  simp [Pt.mk.injEq, W4.mk.injEq, and_assoc]
theorem cmV_self (p : Pt) : cmV p p = 0 := by
  have := cmV_anti p p; omega
theorem pteq_iff {p q : Pt} (hp : p.ok) (hq : q.ok) (gp : p.good = true) (gq : q.good = true) : pteq p q = decide (p = q) := by
  unfold pteq
  by_cases h : p = q
  · subst h; simp [cmV_self]
  · have : cmV p q ≠ 0 := fun e => h (cmV_zero hp hq gp gq e)
    simp [h, this]

set_option maxHeartbeats 2000000 in
theorem cmpPoints_fc (p q : Pt) (hp : p.ok) (hq : q.ok) : FC Try.prog 80 [p.av, q.av] (.int .i64 (cmV p q)) := by
  have pX := W4.bg hp.1
  have pY := W4.bg hp.2.1
  have pW := W4.bg hp.2.2
  have qX := W4.bg hq.1
  have qY := W4.bg hq.2.1
  have qW := W4.bg hq.2.2
  have hcx : FC Try.prog 88 [numI (p.x.v * q.w.v), numI (q.x.v * p.w.v)] (.int .i64 (cmX p q)) := cmp_fc (pX.mul qW) (qX.mul pW) (by omega) (by omega)
  have hcy : FC Try.prog 88 [numI (p.y.v * q.w.v), numI (q.y.v * p.w.v)] (.int .i64 (cmY p q)) := cmp_fc (pY.mul qW) (qY.mul pW) (by omega) (by omega)
  refine FC.body Try.func80 rfl (by simp [idfL, idf, Pt.av, Pt.cells]) (by simp [idfL, idf, idfLL_iff, idf_Wd', idf_numS, cells_numS, numS_fold, idf_numI, cells_numI, numI_fold, Pt.av, Pt.cells, spA, spC]) 40 rfl fun nx K hK => ?_
  refine AWP.seqk fun K1 hK1 => ?_
  refine AWP.region (AOPS.all (by simp (disch := first|omega|(simp only[ln];omega)) [idf_Wd', idf_numS, cells_numS, numS_fold, idf_numI, cells_numI, numI_fold, Pt.av, Pt.cells, spA, spC]; rfl) ?_)
  refine hK1 _ ?_
  refine AWP.seqk fun K2 hK2 => ?_
  refine AWP.seqk fun K3 hK3 => ?_
  refine AWP.region (AOPS.all (by simp (disch := first|omega|(simp only[ln];omega)) [idf_Wd', idf_numS, cells_numS, numS_fold, idf_numI, cells_numI, numI_fold, Pt.av, Pt.cells, spA, spC, eqPt]; rfl) ?_)
  refine hK3 _ ?_
  refine cond_ok (decide (p = q)) (by simp (disch := first|omega|(simp only[ln];omega))) (fun h10 => ?_) (fun h10 => ?_)
  · try simp only [decide_eq_true_eq, decide_eq_false_iff_not] at h10
    subst h10
    refine AWP.seqk fun K4 hK4 => ?_
    refine AWP.region (AOPS.all (by simp (disch := first|omega|(simp only[ln];omega)) [idf_Wd', idf_numS, cells_numS, numS_fold, idf_numI, cells_numI, numI_fold, Pt.av, Pt.cells, spA, spC]; rfl) ?_)
    refine hK4 _ ?_
    refine AWP.ret ?_
    exact hK _ _ _ _ trivial ((Fin.mk (by simp [aRes, aResL, aRes1, idf_Wd', idf_numS, cells_numS, numS_fold, idf_numI, cells_numI, numI_fold, Pt.av, Pt.cells, spA, spC]; rfl)).cast (by rw [cmV_self]))
  · try simp only [decide_eq_true_eq, decide_eq_false_iff_not] at h10
    refine AWP.skip ?_
    refine hK2 _ ?_
    refine AWP.seqk fun K5 hK5 => ?_
    refine AWP.old fun hold => ?_
    refine AWP.draw 6 Try.checked.mixed (by kernel_rfl) (by simp) ?_
    simp only [List.take_succ_cons, List.take_zero, List.drop_succ_cons, List.drop_zero]
    refine DP.runFk 1 (by simp (disch := first|omega|(simp only[ln];omega)) [runDf.eq_def, runF1, runF2, stepF.eq_def, updo.eq_def, hupo.eq_def, opSto1.eq_def, List.take_succ_cons, List.take_zero, idf_Wd', idf_numS, cells_numS, numS_fold, idf_numI, cells_numI, numI_fold, Pt.av, Pt.cells, spA, spC]; rfl) fun fs6 hfs6 => ?_
    replace hfs6 : fs6.length = 1 := hfs6.trans rfl
    simp only [List.drop_succ_cons, List.drop_zero]
    refine DP.fcall (spot_fc p hp) rfl rfl rfl hb84 (by simp (disch := first|omega|(simp only[ln];omega)) [idf_Wd', idf_numS, cells_numS, numS_fold, idf_numI, cells_numI, numI_fold, Pt.av, Pt.cells, spA, spC]) (by simp (disch := first|omega|(simp only[ln];omega))) (by simp) ?_
    simp only [updo]
    refine DP.runF1q (by simp (disch := first|omega|(simp only[ln];omega)) [runDf.eq_def, runF1, runF2, stepF.eq_def, updo.eq_def, hupo.eq_def, opSto1.eq_def, idf_Wd', idf_numS, cells_numS, numS_fold, idf_numI, cells_numI, numI_fold, Pt.av, Pt.cells, spA, spC]; rfl) fun fq7 hfq7 => ?_
    simp [qids, asksB, Op.operands, topId] at hfq7
    simp only [updo]
    refine DP.fcall (spot_fc q hq) rfl rfl rfl hb84 (by simp (disch := first|omega|(simp only[ln];omega)) [idf_Wd', idf_numS, cells_numS, numS_fold, idf_numI, cells_numI, numI_fold, Pt.av, Pt.cells, spA, spC]) (by simp (disch := first|omega|(simp only[ln];omega))) (by simp) ?_
    simp only [updo]
    refine DP.runFk 2 (by simp (disch := first|omega|(simp only[ln];omega)) [runDf.eq_def, runF1, runF2, stepF.eq_def, updo.eq_def, hupo.eq_def, opSto1.eq_def, List.take_succ_cons, List.take_zero, idf_Wd', idf_numS, cells_numS, numS_fold, idf_numI, cells_numI, numI_fold, Pt.av, Pt.cells, spA, spC]; rfl) fun fs8 hfs8 => ?_
    replace hfs8 : fs8.length = 2 := hfs8.trans rfl
    simp only [List.drop_succ_cons, List.drop_zero]
    refine DQ.sto1 (m := 6) [2] _ (by simp (disch := first|omega|(simp only[ln];omega)) [runDf.eq_def, runF1, runF2, stepF.eq_def, updo.eq_def, hupo.eq_def, opSto1.eq_def, idf_Wd', idf_numS, cells_numS, numS_fold, idf_numI, cells_numI, numI_fold, Pt.av, Pt.cells, spA, spC]; rfl) rfl (by simp only [List.length_append, List.length_cons, List.length_nil, hfs6, hfs8]; omega) (by kernel_rfl) (by intro k f hk hex; simp only [List.mem_cons, List.not_mem_nil, or_false] at hex; rcases hex with rfl <;> (simp [List.getElem?_append, hfs6, hfs8] at hk; subst hk; refine ⟨?_, by first | omega | (simp; done) | (simp; omega)⟩; simp [qids, asksB, Op.operands, Call.operands, topId, numS, numI, Wd, hfq7]; try omega)) ?_
    try simp only []
    refine DQ.sto1 (m := 6) [] _ (by simp (disch := first|omega|(simp only[ln];omega)) [runDf.eq_def, runF1, runF2, stepF.eq_def, updo.eq_def, hupo.eq_def, opSto1.eq_def, idf_Wd', idf_numS, cells_numS, numS_fold, idf_numI, cells_numI, numI_fold, Pt.av, Pt.cells, spA, spC]; rfl) rfl (by simp only [List.length_append, List.length_cons, List.length_nil, hfs6, hfs8]; omega) (by kernel_rfl) (by intro k f hk hex; simp only [List.not_mem_nil] at hex) ?_
    try simp only []
    refine hK5 _ ?_
    refine AWP.seqk fun K9 hK9 => ?_
    refine AWP.seqk fun K10 hK10 => ?_
    refine AWP.draw 11 Try.checked.mixed (by kernel_rfl) (by simp) ?_
    simp only [List.take_succ_cons, List.take_zero, List.drop_succ_cons, List.drop_zero]
    refine DP.runFk 4 (by simp (disch := first|omega|(simp only[ln];omega)) [runDf.eq_def, runF1, runF2, stepF.eq_def, updo.eq_def, hupo.eq_def, opSto1.eq_def, List.take_succ_cons, List.take_zero, idf_Wd', idf_numS, cells_numS, numS_fold, idf_numI, cells_numI, numI_fold, Pt.av, Pt.cells, spA, spC]; rfl) fun fs11 hfs11 => ?_
    replace hfs11 : fs11.length = 4 := hfs11.trans rfl
    simp only [List.drop_succ_cons, List.drop_zero]
    refine DP.fcall (by_fc pX qW (by omega) (by omega)) rfl rfl rfl hb92 (by simp (disch := first|omega|(simp only[ln];omega)) [idf_Wd', idf_numS, cells_numS, numS_fold, idf_numI, cells_numI, numI_fold, Pt.av, Pt.cells, spA, spC]) (by simp (disch := first|omega|(simp only[ln];omega))) (by simp) ?_
    simp only [updo]
    refine DP.runFk 4 (by simp (disch := first|omega|(simp only[ln];omega)) [runDf.eq_def, runF1, runF2, stepF.eq_def, updo.eq_def, hupo.eq_def, opSto1.eq_def, List.take_succ_cons, List.take_zero, idf_Wd', idf_numS, cells_numS, numS_fold, idf_numI, cells_numI, numI_fold, Pt.av, Pt.cells, spA, spC]; rfl) fun fs12 hfs12 => ?_
    replace hfs12 : fs12.length = 4 := hfs12.trans rfl
    simp only [List.drop_succ_cons, List.drop_zero]
    refine DP.fcall (by_fc qX pW (by omega) (by omega)) rfl rfl rfl hb92 (by simp (disch := first|omega|(simp only[ln];omega)) [idf_Wd', idf_numS, cells_numS, numS_fold, idf_numI, cells_numI, numI_fold, Pt.av, Pt.cells, spA, spC]) (by simp (disch := first|omega|(simp only[ln];omega))) (by simp) ?_
    simp only [updo]
    refine DP.fcall (hcx) rfl rfl rfl hb88 (by simp (disch := first|omega|(simp only[ln];omega)) [idf_Wd', idf_numS, cells_numS, numS_fold, idf_numI, cells_numI, numI_fold, Pt.av, Pt.cells, spA, spC]) (by simp (disch := first|omega|(simp only[ln];omega))) (by simp) ?_
    simp only [updo]
    refine DQ.runF (m := 11) (by simp only [List.length_append, List.length_cons, List.length_nil, hfs11, hfs12]; omega) _ _ _ (by kernel_rfl) rfl (by simp (disch := first|omega|(simp only[ln];omega)) [runDf.eq_def, runF1, runF2, stepF.eq_def, updo.eq_def, hupo.eq_def, opSto1.eq_def, idf_Wd', idf_numS, cells_numS, numS_fold, idf_numI, cells_numI, numI_fold, Pt.av, Pt.cells, spA, spC]; rfl) ?_
    refine hK10 _ ?_
    refine AWP.seqk fun K13 hK13 => ?_
    refine AWP.region (AOPS.all (by simp (disch := first|omega|(simp only[ln];omega)) [idf_Wd', idf_numS, cells_numS, numS_fold, idf_numI, cells_numI, numI_fold, Pt.av, Pt.cells, spA, spC]; rfl) ?_)
    refine hK13 _ ?_
    refine cond_ok (cmX p q != 0) (by simp (disch := first|omega|(simp only[ln];omega)) [bne]) (fun h27 => ?_) (fun h27 => ?_)
    · try simp only [decide_eq_true_eq, decide_eq_false_iff_not] at h27
      have hne : cmX p q ≠ 0 := by simpa using h27
      refine AWP.seqk fun K14 hK14 => ?_
      refine AWP.region (AOPS.all (by simp (disch := first|omega|(simp only[ln];omega)) [idf_Wd', idf_numS, cells_numS, numS_fold, idf_numI, cells_numI, numI_fold, Pt.av, Pt.cells, spA, spC]; rfl) ?_)
      refine hK14 _ ?_
      refine AWP.ret ?_
      exact hK _ _ _ _ trivial ((Fin.mk (by simp [aRes, aResL, aRes1, idf_Wd', idf_numS, cells_numS, numS_fold, idf_numI, cells_numI, numI_fold, Pt.av, Pt.cells, spA, spC]; rfl)).cast (by rw [cmV, if_pos hne]))
    · try simp only [decide_eq_true_eq, decide_eq_false_iff_not] at h27
      have hne : ¬ cmX p q ≠ 0 := by simpa using h27
      refine AWP.skip ?_
      refine hK9 _ ?_
      refine AWP.seqk fun K15 hK15 => ?_
      refine AWP.draw 11 Try.checked.mixed (by kernel_rfl) (by simp) ?_
      simp only [List.take_succ_cons, List.take_zero, List.drop_succ_cons, List.drop_zero]
      refine DP.runFk 4 (by simp (disch := first|omega|(simp only[ln];omega)) [runDf.eq_def, runF1, runF2, stepF.eq_def, updo.eq_def, hupo.eq_def, opSto1.eq_def, List.take_succ_cons, List.take_zero, idf_Wd', idf_numS, cells_numS, numS_fold, idf_numI, cells_numI, numI_fold, Pt.av, Pt.cells, spA, spC]; rfl) fun fs16 hfs16 => ?_
      replace hfs16 : fs16.length = 4 := hfs16.trans rfl
      simp only [List.drop_succ_cons, List.drop_zero]
      refine DP.fcall (by_fc pY qW (by omega) (by omega)) rfl rfl rfl hb92 (by simp (disch := first|omega|(simp only[ln];omega)) [idf_Wd', idf_numS, cells_numS, numS_fold, idf_numI, cells_numI, numI_fold, Pt.av, Pt.cells, spA, spC]) (by simp (disch := first|omega|(simp only[ln];omega))) (by simp) ?_
      simp only [updo]
      refine DP.runFk 4 (by simp (disch := first|omega|(simp only[ln];omega)) [runDf.eq_def, runF1, runF2, stepF.eq_def, updo.eq_def, hupo.eq_def, opSto1.eq_def, List.take_succ_cons, List.take_zero, idf_Wd', idf_numS, cells_numS, numS_fold, idf_numI, cells_numI, numI_fold, Pt.av, Pt.cells, spA, spC]; rfl) fun fs17 hfs17 => ?_
      replace hfs17 : fs17.length = 4 := hfs17.trans rfl
      simp only [List.drop_succ_cons, List.drop_zero]
      refine DP.fcall (by_fc qY pW (by omega) (by omega)) rfl rfl rfl hb92 (by simp (disch := first|omega|(simp only[ln];omega)) [idf_Wd', idf_numS, cells_numS, numS_fold, idf_numI, cells_numI, numI_fold, Pt.av, Pt.cells, spA, spC]) (by simp (disch := first|omega|(simp only[ln];omega))) (by simp) ?_
      simp only [updo]
      refine DP.fcall (hcy) rfl rfl rfl hb88 (by simp (disch := first|omega|(simp only[ln];omega)) [idf_Wd', idf_numS, cells_numS, numS_fold, idf_numI, cells_numI, numI_fold, Pt.av, Pt.cells, spA, spC]) (by simp (disch := first|omega|(simp only[ln];omega))) (by simp) ?_
      simp only [updo]
      refine DQ.runF (m := 11) (by simp only [List.length_append, List.length_cons, List.length_nil, hfs16, hfs17]; omega) _ _ _ (by kernel_rfl) rfl (by simp (disch := first|omega|(simp only[ln];omega)) [runDf.eq_def, runF1, runF2, stepF.eq_def, updo.eq_def, hupo.eq_def, opSto1.eq_def, idf_Wd', idf_numS, cells_numS, numS_fold, idf_numI, cells_numI, numI_fold, Pt.av, Pt.cells, spA, spC]; rfl) ?_
      refine hK15 _ ?_
      refine AWP.ret ?_
      exact hK _ _ _ _ trivial ((Fin.mk (by simp [aRes, aResL, aRes1, idf_Wd', idf_numS, cells_numS, numS_fold, idf_numI, cells_numI, numI_fold, Pt.av, Pt.cells, spA, spC]; rfl)).cast (by rw [cmV, if_neg hne]))

set_option maxHeartbeats 2000000 in
theorem between_fc (p q r : Pt) (hp : p.ok) (hq : q.ok) (hr : r.ok) (gp : p.good = true) (gq : q.good = true) (gr : r.good = true) : FC Try.prog 107 [p.av, q.av, r.av] (.bool (btI p q r)) := by
  have e1 := pteq_iff hp hr gp gr
  have e2 := pteq_iff hq hr gq gr
  have b1 := cmV_b p r
  have b2 := cmV_b r q
  have hb : btI p q r = (decide (p = r) || decide (q = r) || (decide (0 < cmV p r * cmV r q) && decide (sg3 (det p q r) = 0))) := by unfold btI; rw [e1, e2]
  have hm : IntKind.i64.wrap (cmV p r * cmV r q) = cmV p r * cmV r q := by
    rcases (show cmV p r = -1 ∨ cmV p r = 0 ∨ cmV p r = 1 by omega) with h | h | h <;> rw [h] <;> exact wrap_i64s (by omega) (by omega)
  refine FC.body Try.func107 rfl (by simp [idfL, idf, Pt.av, Pt.cells]) (by simp [idfL, idf, idfLL_iff, idf_Wd', idf_numS, cells_numS, numS_fold, idf_numI, cells_numI, numI_fold, Pt.av, Pt.cells]) 30 rfl fun nx K hK => ?_
  refine AWP.seqk fun K1 hK1 => ?_
  refine AWP.region (AOPS.all (by simp (disch := first|omega|(simp only[ln];omega)) [idf_Wd', idf_numS, cells_numS, numS_fold, idf_numI, cells_numI, numI_fold, Pt.av, Pt.cells]; rfl) ?_)
  refine hK1 _ ?_
  refine AWP.seqk fun K2 hK2 => ?_
  refine AWP.seqk fun K3 hK3 => ?_
  by_cases hpr : p = r
  · have c1 : decide (p = r) = true := by simp [hpr]
    refine AWP.region (AOPS.all (by simp (disch := first|omega|(simp only[ln];omega)) [idf_Wd', idf_numS, cells_numS, numS_fold, idf_numI, cells_numI, numI_fold, Pt.av, Pt.cells, eqPt, c1]; rfl) ?_)
    refine hK3 _ ?_
    refine cond_ok _ (by simp (disch := first|omega|(simp only[ln];omega)); rfl) (fun h14 => ?_) (fun h14 => ?_)
    · try simp only [decide_eq_true_eq, decide_eq_false_iff_not] at h14
      refine AWP.seqk fun K4 hK4 => ?_
      refine AWP.region (AOPS.all (by simp (disch := first|omega|(simp only[ln];omega)) [idf_Wd', idf_numS, cells_numS, numS_fold, idf_numI, cells_numI, numI_fold, Pt.av, Pt.cells]; rfl) ?_)
      refine hK4 _ ?_
      refine AWP.ret ?_
      exact hK _ _ _ _ trivial ((Fin.mk (by simp [aRes, aResL, aRes1, idf_Wd', idf_numS, cells_numS, numS_fold, idf_numI, cells_numI, numI_fold, Pt.av, Pt.cells]; rfl)).cast (by rw [hb, c1]; rfl))
    · simp at h14
  · have c1 : decide (p = r) = false := by simp [hpr]
    refine AWP.region (AOPS.all (by simp (disch := first|omega|(simp only[ln];omega)) [idf_Wd', idf_numS, cells_numS, numS_fold, idf_numI, cells_numI, numI_fold, Pt.av, Pt.cells, eqPt, c1]; rfl) ?_)
    refine hK3 _ ?_
    refine cond_ok (decide (q = r)) (by simp (disch := first|omega|(simp only[ln];omega))) (fun h14 => ?_) (fun h14 => ?_)
    · try simp only [decide_eq_true_eq, decide_eq_false_iff_not] at h14
      refine AWP.seqk fun K5 hK5 => ?_
      refine AWP.region (AOPS.all (by simp (disch := first|omega|(simp only[ln];omega)) [idf_Wd', idf_numS, cells_numS, numS_fold, idf_numI, cells_numI, numI_fold, Pt.av, Pt.cells]; rfl) ?_)
      refine hK5 _ ?_
      refine AWP.ret ?_
      exact hK _ _ _ _ trivial ((Fin.mk (by simp [aRes, aResL, aRes1, idf_Wd', idf_numS, cells_numS, numS_fold, idf_numI, cells_numI, numI_fold, Pt.av, Pt.cells]; rfl)).cast (by rw [hb, decide_eq_true h14]; simp))
    · try simp only [decide_eq_true_eq, decide_eq_false_iff_not] at h14
      have c2 : decide (q = r) = false := decide_eq_false h14
      refine AWP.skip ?_
      refine hK2 _ ?_
      refine AWP.seqk fun K6 hK6 => ?_
      cases hc : decide (0 < cmV p r * cmV r q)
      · refine AWP.draw 15 Try.checked.mixed (by kernel_rfl) (by simp) ?_
        simp only [List.take_succ_cons, List.take_zero, List.drop_succ_cons, List.drop_zero]
        refine DP.runFk 2 (by simp (disch := first|omega|(simp only[ln];omega)) [runDf.eq_def, runF1, runF2, stepF.eq_def, updo.eq_def, hupo.eq_def, opSto1.eq_def, List.take_succ_cons, List.take_zero, idf_Wd', idf_numS, cells_numS, numS_fold, idf_numI, cells_numI, numI_fold, Pt.av, Pt.cells, hm, hc]; rfl) fun fs7 hfs7 => ?_
        replace hfs7 : fs7.length = 2 := hfs7.trans rfl
        simp only [List.drop_succ_cons, List.drop_zero]
        refine DP.fcall (cmpPoints_fc p r hp hr) rfl rfl rfl hb80 (by simp (disch := first|omega|(simp only[ln];omega)) [idf_Wd', hm, hc, idf_numS, cells_numS, numS_fold, idf_numI, cells_numI, numI_fold, Pt.av, Pt.cells]) (by simp (disch := first|omega|(simp only[ln];omega)) [hm, hc]) (by simp) ?_
        simp only [updo]
        refine DP.runFk 2 (by simp (disch := first|omega|(simp only[ln];omega)) [runDf.eq_def, runF1, runF2, stepF.eq_def, updo.eq_def, hupo.eq_def, opSto1.eq_def, List.take_succ_cons, List.take_zero, idf_Wd', idf_numS, cells_numS, numS_fold, idf_numI, cells_numI, numI_fold, Pt.av, Pt.cells, hm, hc]; rfl) fun fs8 hfs8 => ?_
        replace hfs8 : fs8.length = 2 := hfs8.trans rfl
        simp only [List.drop_succ_cons, List.drop_zero]
        refine DP.fcall (cmpPoints_fc r q hr hq) rfl rfl rfl hb80 (by simp (disch := first|omega|(simp only[ln];omega)) [idf_Wd', hm, hc, idf_numS, cells_numS, numS_fold, idf_numI, cells_numI, numI_fold, Pt.av, Pt.cells]) (by simp (disch := first|omega|(simp only[ln];omega)) [hm, hc]) (by simp) ?_
        simp only [updo]
        refine DP.runFk 9 (by simp (disch := first|omega|(simp only[ln];omega)) [runDf.eq_def, runF1, runF2, stepF.eq_def, updo.eq_def, hupo.eq_def, opSto1.eq_def, List.take_succ_cons, List.take_zero, idf_Wd', idf_numS, cells_numS, numS_fold, idf_numI, cells_numI, numI_fold, Pt.av, Pt.cells, hm, hc]; rfl) fun fs9 hfs9 => ?_
        replace hfs9 : fs9.length = 9 := hfs9.trans rfl
        simp only [List.drop_succ_cons, List.drop_zero]
        refine DQ.runF (m := 15) (by simp only [List.length_append, List.length_cons, List.length_nil, hfs7, hfs8, hfs9]; omega) _ _ _ (by kernel_rfl) rfl (by simp (disch := first|omega|(simp only[ln];omega)) [runDf.eq_def, runF1, runF2, stepF.eq_def, updo.eq_def, hupo.eq_def, opSto1.eq_def, idf_Wd', idf_numS, cells_numS, numS_fold, idf_numI, cells_numI, numI_fold, Pt.av, Pt.cells, hm, hc]; rfl) ?_
        refine hK6 _ ?_
        refine AWP.ret ?_
        exact hK _ _ _ _ trivial ((Fin.mk (by simp [aRes, aResL, aRes1, idf_Wd', idf_numS, cells_numS, numS_fold, idf_numI, cells_numI, numI_fold, Pt.av, Pt.cells]; rfl)).cast (by rw [hb, c1, c2, hc]; rfl))
      · refine AWP.draw 15 Try.checked.mixed (by kernel_rfl) (by simp) ?_
        simp only [List.take_succ_cons, List.take_zero, List.drop_succ_cons, List.drop_zero]
        refine DP.runFk 2 (by simp (disch := first|omega|(simp only[ln];omega)) [runDf.eq_def, runF1, runF2, stepF.eq_def, updo.eq_def, hupo.eq_def, opSto1.eq_def, List.take_succ_cons, List.take_zero, idf_Wd', idf_numS, cells_numS, numS_fold, idf_numI, cells_numI, numI_fold, Pt.av, Pt.cells, hm, hc]; rfl) fun fs10 hfs10 => ?_
        replace hfs10 : fs10.length = 2 := hfs10.trans rfl
        simp only [List.drop_succ_cons, List.drop_zero]
        refine DP.fcall (cmpPoints_fc p r hp hr) rfl rfl rfl hb80 (by simp (disch := first|omega|(simp only[ln];omega)) [idf_Wd', hm, hc, idf_numS, cells_numS, numS_fold, idf_numI, cells_numI, numI_fold, Pt.av, Pt.cells]) (by simp (disch := first|omega|(simp only[ln];omega)) [hm, hc]) (by simp) ?_
        simp only [updo]
        refine DP.runFk 2 (by simp (disch := first|omega|(simp only[ln];omega)) [runDf.eq_def, runF1, runF2, stepF.eq_def, updo.eq_def, hupo.eq_def, opSto1.eq_def, List.take_succ_cons, List.take_zero, idf_Wd', idf_numS, cells_numS, numS_fold, idf_numI, cells_numI, numI_fold, Pt.av, Pt.cells, hm, hc]; rfl) fun fs11 hfs11 => ?_
        replace hfs11 : fs11.length = 2 := hfs11.trans rfl
        simp only [List.drop_succ_cons, List.drop_zero]
        refine DP.fcall (cmpPoints_fc r q hr hq) rfl rfl rfl hb80 (by simp (disch := first|omega|(simp only[ln];omega)) [idf_Wd', hm, hc, idf_numS, cells_numS, numS_fold, idf_numI, cells_numI, numI_fold, Pt.av, Pt.cells]) (by simp (disch := first|omega|(simp only[ln];omega)) [hm, hc]) (by simp) ?_
        simp only [updo]
        refine DP.runFk 6 (by simp (disch := first|omega|(simp only[ln];omega)) [runDf.eq_def, runF1, runF2, stepF.eq_def, updo.eq_def, hupo.eq_def, opSto1.eq_def, List.take_succ_cons, List.take_zero, idf_Wd', idf_numS, cells_numS, numS_fold, idf_numI, cells_numI, numI_fold, Pt.av, Pt.cells, hm, hc]; rfl) fun fs12 hfs12 => ?_
        replace hfs12 : fs12.length = 6 := hfs12.trans rfl
        simp only [List.drop_succ_cons, List.drop_zero]
        refine DP.fcall (turn_fc p q r hp hq hr) rfl rfl rfl hb108 (by simp (disch := first|omega|(simp only[ln];omega)) [idf_Wd', hm, hc, idf_numS, cells_numS, numS_fold, idf_numI, cells_numI, numI_fold, Pt.av, Pt.cells]) (by simp (disch := first|omega|(simp only[ln];omega)) [hm, hc]) (by simp) ?_
        simp only [updo]
        refine DP.runFk 2 (by simp (disch := first|omega|(simp only[ln];omega)) [runDf.eq_def, runF1, runF2, stepF.eq_def, updo.eq_def, hupo.eq_def, opSto1.eq_def, List.take_succ_cons, List.take_zero, idf_Wd', idf_numS, cells_numS, numS_fold, idf_numI, cells_numI, numI_fold, Pt.av, Pt.cells, hm, hc]; rfl) fun fs13 hfs13 => ?_
        replace hfs13 : fs13.length = 2 := hfs13.trans rfl
        simp only [List.drop_succ_cons, List.drop_zero]
        refine DQ.runF (m := 15) (by simp only [List.length_append, List.length_cons, List.length_nil, hfs10, hfs11, hfs12, hfs13]; omega) _ _ _ (by kernel_rfl) rfl (by simp (disch := first|omega|(simp only[ln];omega)) [runDf.eq_def, runF1, runF2, stepF.eq_def, updo.eq_def, hupo.eq_def, opSto1.eq_def, idf_Wd', idf_numS, cells_numS, numS_fold, idf_numI, cells_numI, numI_fold, Pt.av, Pt.cells, hm, hc]; rfl) ?_
        refine hK6 _ ?_
        refine AWP.ret ?_
        exact hK _ _ _ _ trivial ((Fin.mk (r := .bool (sg3 (det p q r) == 0)) (by simp [aRes, aResL, aRes1, idf_Wd', idf_numS, cells_numS, numS_fold, idf_numI, cells_numI, numI_fold, Pt.av, Pt.cells])).cast (by rw [hb, c1, c2, hc]; simp [beqd]))

end Go.Proofs.Ytmaebeknmiomnaa

/- Walks: fractions of the program. -/
namespace Go.Proofs.Ytmaebeknmiomnaa
open Go Go.RowKit
set_option linter.unusedSimpArgs false
set_option linter.unusedVariables false
set_option maxRecDepth 100000
attribute [local simp] List.getElem?_cons_zero List.getElem?_cons_succ List.getElem?_toArray runOps stepOp.eq_def agd.eq_def dstOk.eq_def opVal.eq_def opNew.eq_def opSto.eq_def ev.eq_def cv.eq_def puts_some puts_none upd_ap lst.eq_def aBin.eq_def aUn.eq_def aBi_str aBi_isl aBi_osl aBi_nsl aBi_max aBi_min aBi_max3 aConv.eq_def aLd.eq_def aLoad.eq_def aField.eq_def aFld.eq_def aIdx_isl aIdx_osl aSlc_isl aSlc_osl aSlc_str aSlc_nsl bnd.eq_def evs_nil evs_cons aBuild.eq_def aFill splice.eq_def cells_agg cells_int cells_bool cells_str cells_nil cells_nsl cells_isl cells_osl cells_ptr cells_ip cells_fn cells_Wd one_int one_bool one_str one_nil one_nsl one_isl one_osl one_ptr one_ip one_fn one_Wd aSets hupd_eq hupd_ne wrap_i64s wrap_u64s wrap_u32s wrap_u8s wd_getD wd_set wd_len wd_replicate wd_one wd_fold fz_osl hupd_same aSix.eq_def aEqS.eq_def aEqB_bool aEqB_nsl aEqB_nil
attribute [local simp] szT2 byT2 agT2 unT2 zoT2 szT4 byT4 agT4 unT4 zoT4 szT24 byT24 agT24 unT24 zoT24 szT26 byT26 agT26 flT26 fdT26_0 fdT26_1 fdT26_2 fdT26_3 zoT26 szT51 byT51 agT51 flT51 fdT51_0 fdT51_1 zoT51 szT117 byT117 agT117 elT117 unT117 zoT117 szT119 byT119 agT119 flT119 fdT119_0 fdT119_1 zoT119 szT143 byT143 agT143 flT143 fdT143_0 fdT143_1 zoT143 szT200 byT200 agT200 elT200 unT200 zoT200

set_option maxHeartbeats 2000000 in
theorem over_fc {j : Nat} (a b : Int) (hb0 : b ≠ 0) (ha : Bg j a) (hb : Bg j b) (hj : j ≤ 16777216) : FC Try.prog 180 [numI a, numI b] (.tup [numI (a / b), numI (a % b)]) := by
  have hD := divWords_fc a.natAbs b.natAbs (by omega) (by have := ha.len; rw [mag_abs]; omega) (by have := hb.len; rw [mag_abs]; omega)
  rw [mag_abs, mag_abs] at hD
  have eu := eu_lem a b hb0
  generalize hq : ((a.natAbs / b.natAbs : Nat) : Int) = q0 at *
  generalize hr : ((a.natAbs % b.natAbs : Nat) : Int) = r0 at *
  have q0n : 0 ≤ q0 := by rw [← hq]; exact Int.natCast_nonneg _
  have r0n : 0 ≤ r0 := by rw [← hr]; exact Int.natCast_nonneg _
  have bq : Bg j q0 := by
    rw [← hq]; unfold Bg at *; rw [Int.natAbs_natCast]; have := Nat.div_le_self a.natAbs b.natAbs; omega
  have br : Bg j r0 := by
    rw [← hr]; unfold Bg at *; rw [Int.natAbs_natCast]; have := Nat.mod_le a.natAbs b.natAbs; omega
  have bqs : ∀ s, Bg j (sg s q0) := fun s => by cases s <;> simp only [sg_true, sg_false]; exact bq; exact bq.neg
  have brs : ∀ s, Bg j (sg s r0) := fun s => by cases s <;> simp only [sg_true, sg_false]; exact br; exact br.neg
  have lq := bq.len
  have lr := br.len
  have hT1 := made_fc (decide (a < 0) != decide (b < 0)) (mag q0) (by omega) (mag_dig _)
  rw [mag_val, Int.natAbs_of_nonneg q0n] at hT1
  have hT2 := made_fc (decide (a < 0)) (mag r0) (by omega) (mag_dig _)
  rw [mag_val, Int.natAbs_of_nonneg r0n] at hT2
  obtain ⟨S, hS⟩ : ∃ S, (decide (a < 0) != decide (b < 0)) = S := ⟨_, rfl⟩
  have hS2 : (decide (a < 0) == decide (b < 0)) = !S := by rw [← hS]; cases decide (a < 0) <;> cases decide (b < 0) <;> rfl
  rw [hS] at eu hT1
  refine FC.body Try.func180 rfl (by simp [idfL, idf, idfLL_iff, idf_Wd', idf_numI, cells_numI, numI_fold]) (by simp [idfL, idf, idfLL_iff, idf_Wd', idf_numI, cells_numI, numI_fold]) 45 rfl fun nx K hK => ?_
  refine AWP.seqk fun K1 hK1 => ?_
  refine AWP.region (AOPS.all (by simp (disch := first|omega|(simp only[ln];omega)) [idf_Wd', idf_numI, cells_numI, numI_fold]; rfl) ?_)
  refine hK1 _ ?_
  refine AWP.seqk fun K2 hK2 => ?_
  refine AWP.region ?_
  refine AOPS.runk 4 (by simp (disch := first|omega|(simp only[ln];omega)) [List.take_succ_cons, List.take_zero, idf_Wd', idf_numI, cells_numI, numI_fold]; rfl) ?_
  simp only [List.drop_succ_cons, List.drop_zero]
  refine AOPS.fcall (hD) rfl rfl rfl hb172 (by simp (disch := first|omega|(simp only[ln];omega)) [idf_Wd', idf_numI, cells_numI, numI_fold]) (by simp (disch := first|omega|(simp only[ln];omega))) (by simp) ?_
  simp only [puts_some, updo]
  refine AOPS.all (by simp (disch := first|omega|(simp only[ln];omega)) [idf_Wd', idf_numI, cells_numI, numI_fold]; rfl) ?_
  refine hK2 _ ?_
  refine AWP.seqk fun K3 hK3 => ?_
  refine AWP.old fun hold => ?_
  refine AWP.draw 13 Try.checked.mixed (by kernel_rfl) (by simp) ?_
  simp only [List.take_succ_cons, List.take_zero, List.drop_succ_cons, List.drop_zero]
  refine DP.runFk 6 (by simp (disch := first|omega|(simp only[ln];omega)) [runDf.eq_def, runF1, runF2, stepF.eq_def, updo.eq_def, hupo.eq_def, opSto1.eq_def, List.take_succ_cons, List.take_zero, idf_Wd', idf_numI, cells_numI, numI_fold, hS2]; rfl) fun fs4 hfs4 => ?_
  replace hfs4 : fs4.length = 6 := hfs4.trans rfl
  simp only [List.drop_succ_cons, List.drop_zero]
  refine DP.fcall (hT1) rfl rfl rfl hb174 (by simp (disch := first|omega|(simp only[ln];omega)) [idf_Wd', hS2, idf_numI, cells_numI, numI_fold]) (by simp (disch := first|omega|(simp only[ln];omega)) [hS2]) (by simp) ?_
  simp only [updo]
  refine DP.runF1q (by simp (disch := first|omega|(simp only[ln];omega)) [runDf.eq_def, runF1, runF2, stepF.eq_def, updo.eq_def, hupo.eq_def, opSto1.eq_def, idf_Wd', idf_numI, cells_numI, numI_fold, hS2]; rfl) fun fq5 hfq5 => ?_
  simp [qids, asksB, Op.operands, topId] at hfq5
  simp only [updo]
  refine DP.runF1q (by simp (disch := first|omega|(simp only[ln];omega)) [runDf.eq_def, runF1, runF2, stepF.eq_def, updo.eq_def, hupo.eq_def, opSto1.eq_def, idf_Wd', idf_numI, cells_numI, numI_fold, hS2]; rfl) fun fq6 hfq6 => ?_
  simp [qids, asksB, Op.operands, topId] at hfq6
  simp only [updo]
  refine DP.runF1q (by simp (disch := first|omega|(simp only[ln];omega)) [runDf.eq_def, runF1, runF2, stepF.eq_def, updo.eq_def, hupo.eq_def, opSto1.eq_def, idf_Wd', idf_numI, cells_numI, numI_fold, hS2]; rfl) fun fq7 hfq7 => ?_
  simp [qids, asksB, Op.operands, topId] at hfq7
  simp only [updo]
  refine DP.fcall (hT2) rfl rfl rfl hb174 (by simp (disch := first|omega|(simp only[ln];omega)) [idf_Wd', hS2, idf_numI, cells_numI, numI_fold]) (by simp (disch := first|omega|(simp only[ln];omega)) [hS2]) (by simp) ?_
  simp only [updo]
  refine DP.runFk 2 (by simp (disch := first|omega|(simp only[ln];omega)) [runDf.eq_def, runF1, runF2, stepF.eq_def, updo.eq_def, hupo.eq_def, opSto1.eq_def, List.take_succ_cons, List.take_zero, idf_Wd', idf_numI, cells_numI, numI_fold, hS2]; rfl) fun fs8 hfs8 => ?_
  replace hfs8 : fs8.length = 2 := hfs8.trans rfl
  simp only [List.drop_succ_cons, List.drop_zero]
  refine DQ.sto1 (m := 13) [7, 8, 9] _ (by simp (disch := first|omega|(simp only[ln];omega)) [runDf.eq_def, runF1, runF2, stepF.eq_def, updo.eq_def, hupo.eq_def, opSto1.eq_def, idf_Wd', idf_numI, cells_numI, numI_fold, hS2]; rfl) rfl (by simp only [List.length_append, List.length_cons, List.length_nil, hfs4, hfs8]; omega) (by kernel_rfl) (by intro k f hk hex; simp only [List.mem_cons, List.not_mem_nil, or_false] at hex; rcases hex with rfl | rfl | rfl <;> (simp [List.getElem?_append, hfs4, hfs8] at hk; subst hk; refine ⟨?_, by first | omega | (simp; done) | (simp; omega)⟩; simp [qids, asksB, Op.operands, Call.operands, topId, numS, numI, Wd, hfq5, hfq6, hfq7]; try omega)) ?_
  try simp only []
  refine DQ.sto1 (m := 13) [] _ (by simp (disch := first|omega|(simp only[ln];omega)) [runDf.eq_def, runF1, runF2, stepF.eq_def, updo.eq_def, hupo.eq_def, opSto1.eq_def, idf_Wd', idf_numI, cells_numI, numI_fold, hS2]; rfl) rfl (by simp only [List.length_append, List.length_cons, List.length_nil, hfs4, hfs8]; omega) (by kernel_rfl) (by intro k f hk hex; simp only [List.not_mem_nil] at hex) ?_
  try simp only []
  refine hK3 _ ?_
  refine AWP.seqk fun K9 hK9 => ?_
  refine AWP.seqk fun K10 hK10 => ?_
  refine AWP.region (AOPS.all (by simp (disch := first|omega|(simp only[ln];omega)) [idf_Wd', idf_numI, cells_numI, numI_fold]; rfl) ?_)
  refine hK10 _ ?_
  refine cond_ok (decide (sg (decide (a < 0)) r0 < 0)) (by simp (disch := first|omega|(simp only[ln];omega))) (fun h30 => ?_) (fun h30 => ?_)
  · try simp only [decide_eq_true_eq, decide_eq_false_iff_not] at h30
    refine AWP.seqk fun K11 hK11 => ?_
    refine AWP.draw 4 Try.checked.mixed (by kernel_rfl) (by simp) ?_
    simp only [List.take_succ_cons, List.take_zero, List.drop_succ_cons, List.drop_zero]
    refine DP.runFk 2 (by simp (disch := first|omega|(simp only[ln];omega)) [runDf.eq_def, runF1, runF2, stepF.eq_def, updo.eq_def, hupo.eq_def, opSto1.eq_def, List.take_succ_cons, List.take_zero, idf_Wd', idf_numI, cells_numI, numI_fold]; rfl) fun fs12 hfs12 => ?_
    replace hfs12 : fs12.length = 2 := hfs12.trans rfl
    simp only [List.drop_succ_cons, List.drop_zero]
    refine DP.fcall (abs_fc b) rfl rfl rfl hb217 (by simp (disch := first|omega|(simp only[ln];omega)) [idf_Wd', idf_numI, cells_numI, numI_fold]) (by simp (disch := first|omega|(simp only[ln];omega))) (by simp) ?_
    simp only [updo]
    refine DP.fcall (plus_fc (brs (decide (a < 0))) hb.abs (by omega) (by omega)) rfl rfl rfl hb101 (by simp (disch := first|omega|(simp only[ln];omega)) [idf_Wd', idf_numI, cells_numI, numI_fold]) (by simp (disch := first|omega|(simp only[ln];omega))) (by simp) ?_
    simp only [updo]
    refine DQ.runF (m := 4) (by simp only [List.length_append, List.length_cons, List.length_nil, hfs12]; omega) _ _ _ (by kernel_rfl) rfl (by simp (disch := first|omega|(simp only[ln];omega)) [runDf.eq_def, runF1, runF2, stepF.eq_def, updo.eq_def, hupo.eq_def, opSto1.eq_def, idf_Wd', idf_numI, cells_numI, numI_fold]; rfl) ?_
    refine hK11 _ ?_
    refine AWP.seqk fun K13 hK13 => ?_
    refine AWP.region (AOPS.all (by simp (disch := first|omega|(simp only[ln];omega)) [idf_Wd', idf_numI, cells_numI, numI_fold]; rfl) ?_)
    refine hK13 _ ?_
    refine cond_ok (decide (b < 0)) (by simp (disch := first|omega|(simp only[ln];omega))) (fun h36 => ?_) (fun h36 => ?_)
    · try simp only [decide_eq_true_eq, decide_eq_false_iff_not] at h36
      have e := eu.2.1 h30 h36
      refine AWP.draw 3 Try.checked.mixed (by kernel_rfl) (by simp) ?_
      simp only [List.take_succ_cons, List.take_zero, List.drop_succ_cons, List.drop_zero]
      refine DP.runFk 1 (by simp (disch := first|omega|(simp only[ln];omega)) [runDf.eq_def, runF1, runF2, stepF.eq_def, updo.eq_def, hupo.eq_def, opSto1.eq_def, List.take_succ_cons, List.take_zero, idf_Wd', idf_numI, cells_numI, numI_fold]; rfl) fun fs14 hfs14 => ?_
      replace hfs14 : fs14.length = 1 := hfs14.trans rfl
      simp only [List.drop_succ_cons, List.drop_zero]
      refine DP.fcall (whole_fc 1 (by omega) (by omega)) rfl rfl rfl hb89 (by simp (disch := first|omega|(simp only[ln];omega)) [idf_Wd', idf_numI, cells_numI, numI_fold]) (by simp (disch := first|omega|(simp only[ln];omega))) (by simp) ?_
      simp only [updo]
      refine DP.fcall (plus_fc (bqs S) (Bg.i64 (n := 1) (by omega) (by omega)) (by omega) (by omega)) rfl rfl rfl hb101 (by simp (disch := first|omega|(simp only[ln];omega)) [idf_Wd', idf_numI, cells_numI, numI_fold]) (by simp (disch := first|omega|(simp only[ln];omega))) (by simp) ?_
      simp only [updo]
      refine DQ.runF (m := 3) (by simp only [List.length_append, List.length_cons, List.length_nil, hfs14]; omega) _ _ _ (by kernel_rfl) rfl (by simp (disch := first|omega|(simp only[ln];omega)) [runDf.eq_def, runF1, runF2, stepF.eq_def, updo.eq_def, hupo.eq_def, opSto1.eq_def, idf_Wd', idf_numI, cells_numI, numI_fold]; rfl) ?_
      refine hK9 _ ?_
      refine AWP.seqk fun K15 hK15 => ?_
      refine AWP.old fun hold => ?_
      refine AWP.draw 2 Try.checked.mixed (by kernel_rfl) (by simp) ?_
      simp only [List.take_succ_cons, List.take_zero, List.drop_succ_cons, List.drop_zero]
      refine DP.runFk 1 (by simp (disch := first|omega|(simp only[ln];omega)) [runDf.eq_def, runF1, runF2, stepF.eq_def, updo.eq_def, hupo.eq_def, opSto1.eq_def, List.take_succ_cons, List.take_zero, idf_Wd', idf_numI, cells_numI, numI_fold]; rfl) fun fs16 hfs16 => ?_
      replace hfs16 : fs16.length = 1 := hfs16.trans rfl
      simp only [List.drop_succ_cons, List.drop_zero]
      refine DP.runF1q (by simp (disch := first|omega|(simp only[ln];omega)) [runDf.eq_def, runF1, runF2, stepF.eq_def, updo.eq_def, hupo.eq_def, opSto1.eq_def, idf_Wd', idf_numI, cells_numI, numI_fold]; rfl) fun fq17 hfq17 => ?_
      simp [qids, asksB, Op.operands, topId] at hfq17
      simp only [updo]
      refine DQ.sto1 (m := 2) [1] _ (by simp (disch := first|omega|(simp only[ln];omega)) [runDf.eq_def, runF1, runF2, stepF.eq_def, updo.eq_def, hupo.eq_def, opSto1.eq_def, idf_Wd', idf_numI, cells_numI, numI_fold]; rfl) rfl (by simp only [List.length_append, List.length_cons, List.length_nil, hfs16]; omega) (by kernel_rfl) (by intro k f hk hex; simp only [List.mem_cons, List.not_mem_nil, or_false] at hex; rcases hex with rfl <;> (simp [List.getElem?_append, hfs16] at hk; subst hk; refine ⟨?_, by first | omega | (simp; done) | (simp; omega)⟩; simp [qids, asksB, Op.operands, Call.operands, topId, numS, numI, Wd, hfq17]; try omega)) ?_
      try simp only []
      refine DQ.sto1 (m := 2) [] _ (by simp (disch := first|omega|(simp only[ln];omega)) [runDf.eq_def, runF1, runF2, stepF.eq_def, updo.eq_def, hupo.eq_def, opSto1.eq_def, idf_Wd', idf_numI, cells_numI, numI_fold]; rfl) rfl (by simp only [List.length_append, List.length_cons, List.length_nil, hfs16]; omega) (by kernel_rfl) (by intro k f hk hex; simp only [List.not_mem_nil] at hex) ?_
      try simp only []
      refine hK15 _ ?_
      refine AWP.ret ?_
      exact hK _ _ _ _ trivial ((Fin.mk (by simp [aRes, aResL, aRes1, idf_Wd', idf_numI, cells_numI, numI_fold]; rfl)).cast (by rw [← e.1, ← e.2, show ((b.natAbs : Nat) : Int) = -b by omega, ← Int.sub_eq_add_neg]))
    · try simp only [decide_eq_true_eq, decide_eq_false_iff_not] at h36
      have e := eu.2.2 h30 h36
      refine AWP.draw 3 Try.checked.mixed (by kernel_rfl) (by simp) ?_
      simp only [List.take_succ_cons, List.take_zero, List.drop_succ_cons, List.drop_zero]
      refine DP.runFk 1 (by simp (disch := first|omega|(simp only[ln];omega)) [runDf.eq_def, runF1, runF2, stepF.eq_def, updo.eq_def, hupo.eq_def, opSto1.eq_def, List.take_succ_cons, List.take_zero, idf_Wd', idf_numI, cells_numI, numI_fold]; rfl) fun fs18 hfs18 => ?_
      replace hfs18 : fs18.length = 1 := hfs18.trans rfl
      simp only [List.drop_succ_cons, List.drop_zero]
      refine DP.fcall (whole_fc 1 (by omega) (by omega)) rfl rfl rfl hb89 (by simp (disch := first|omega|(simp only[ln];omega)) [idf_Wd', idf_numI, cells_numI, numI_fold]) (by simp (disch := first|omega|(simp only[ln];omega))) (by simp) ?_
      simp only [updo]
      refine DP.fcall (less_fc (bqs S) (Bg.i64 (n := 1) (by omega) (by omega)) (by omega) (by omega)) rfl rfl rfl hb109 (by simp (disch := first|omega|(simp only[ln];omega)) [idf_Wd', idf_numI, cells_numI, numI_fold]) (by simp (disch := first|omega|(simp only[ln];omega))) (by simp) ?_
      simp only [updo]
      refine DQ.runF (m := 3) (by simp only [List.length_append, List.length_cons, List.length_nil, hfs18]; omega) _ _ _ (by kernel_rfl) rfl (by simp (disch := first|omega|(simp only[ln];omega)) [runDf.eq_def, runF1, runF2, stepF.eq_def, updo.eq_def, hupo.eq_def, opSto1.eq_def, idf_Wd', idf_numI, cells_numI, numI_fold]; rfl) ?_
      refine hK9 _ ?_
      refine AWP.seqk fun K19 hK19 => ?_
      refine AWP.old fun hold => ?_
      refine AWP.draw 2 Try.checked.mixed (by kernel_rfl) (by simp) ?_
      simp only [List.take_succ_cons, List.take_zero, List.drop_succ_cons, List.drop_zero]
      refine DP.runFk 1 (by simp (disch := first|omega|(simp only[ln];omega)) [runDf.eq_def, runF1, runF2, stepF.eq_def, updo.eq_def, hupo.eq_def, opSto1.eq_def, List.take_succ_cons, List.take_zero, idf_Wd', idf_numI, cells_numI, numI_fold]; rfl) fun fs20 hfs20 => ?_
      replace hfs20 : fs20.length = 1 := hfs20.trans rfl
      simp only [List.drop_succ_cons, List.drop_zero]
      refine DP.runF1q (by simp (disch := first|omega|(simp only[ln];omega)) [runDf.eq_def, runF1, runF2, stepF.eq_def, updo.eq_def, hupo.eq_def, opSto1.eq_def, idf_Wd', idf_numI, cells_numI, numI_fold]; rfl) fun fq21 hfq21 => ?_
      simp [qids, asksB, Op.operands, topId] at hfq21
      simp only [updo]
      refine DQ.sto1 (m := 2) [1] _ (by simp (disch := first|omega|(simp only[ln];omega)) [runDf.eq_def, runF1, runF2, stepF.eq_def, updo.eq_def, hupo.eq_def, opSto1.eq_def, idf_Wd', idf_numI, cells_numI, numI_fold]; rfl) rfl (by simp only [List.length_append, List.length_cons, List.length_nil, hfs20]; omega) (by kernel_rfl) (by intro k f hk hex; simp only [List.mem_cons, List.not_mem_nil, or_false] at hex; rcases hex with rfl <;> (simp [List.getElem?_append, hfs20] at hk; subst hk; refine ⟨?_, by first | omega | (simp; done) | (simp; omega)⟩; simp [qids, asksB, Op.operands, Call.operands, topId, numS, numI, Wd, hfq21]; try omega)) ?_
      try simp only []
      refine DQ.sto1 (m := 2) [] _ (by simp (disch := first|omega|(simp only[ln];omega)) [runDf.eq_def, runF1, runF2, stepF.eq_def, updo.eq_def, hupo.eq_def, opSto1.eq_def, idf_Wd', idf_numI, cells_numI, numI_fold]; rfl) rfl (by simp only [List.length_append, List.length_cons, List.length_nil, hfs20]; omega) (by kernel_rfl) (by intro k f hk hex; simp only [List.not_mem_nil] at hex) ?_
      try simp only []
      refine hK19 _ ?_
      refine AWP.ret ?_
      exact hK _ _ _ _ trivial ((Fin.mk (by simp [aRes, aResL, aRes1, idf_Wd', idf_numI, cells_numI, numI_fold]; rfl)).cast (by rw [← e.1, ← e.2, show ((b.natAbs : Nat) : Int) = b by omega]))
  · try simp only [decide_eq_true_eq, decide_eq_false_iff_not] at h30
    have e := eu.1 h30
    refine AWP.skip ?_
    refine hK9 _ ?_
    refine AWP.seqk fun K22 hK22 => ?_
    refine AWP.old fun hold => ?_
    refine AWP.draw 2 Try.checked.mixed (by kernel_rfl) (by simp) ?_
    simp only [List.take_succ_cons, List.take_zero, List.drop_succ_cons, List.drop_zero]
    refine DP.runFk 1 (by simp (disch := first|omega|(simp only[ln];omega)) [runDf.eq_def, runF1, runF2, stepF.eq_def, updo.eq_def, hupo.eq_def, opSto1.eq_def, List.take_succ_cons, List.take_zero, idf_Wd', idf_numI, cells_numI, numI_fold]; rfl) fun fs23 hfs23 => ?_
    replace hfs23 : fs23.length = 1 := hfs23.trans rfl
    simp only [List.drop_succ_cons, List.drop_zero]
    refine DP.runF1q (by simp (disch := first|omega|(simp only[ln];omega)) [runDf.eq_def, runF1, runF2, stepF.eq_def, updo.eq_def, hupo.eq_def, opSto1.eq_def, idf_Wd', idf_numI, cells_numI, numI_fold]; rfl) fun fq24 hfq24 => ?_
    simp [qids, asksB, Op.operands, topId] at hfq24
    simp only [updo]
    refine DQ.sto1 (m := 2) [1] _ (by simp (disch := first|omega|(simp only[ln];omega)) [runDf.eq_def, runF1, runF2, stepF.eq_def, updo.eq_def, hupo.eq_def, opSto1.eq_def, idf_Wd', idf_numI, cells_numI, numI_fold]; rfl) rfl (by simp only [List.length_append, List.length_cons, List.length_nil, hfs23]; omega) (by kernel_rfl) (by intro k f hk hex; simp only [List.mem_cons, List.not_mem_nil, or_false] at hex; rcases hex with rfl <;> (simp [List.getElem?_append, hfs23] at hk; subst hk; refine ⟨?_, by first | omega | (simp; done) | (simp; omega)⟩; simp [qids, asksB, Op.operands, Call.operands, topId, numS, numI, Wd, hfq24]; try omega)) ?_
    try simp only []
    refine DQ.sto1 (m := 2) [] _ (by simp (disch := first|omega|(simp only[ln];omega)) [runDf.eq_def, runF1, runF2, stepF.eq_def, updo.eq_def, hupo.eq_def, opSto1.eq_def, idf_Wd', idf_numI, cells_numI, numI_fold]; rfl) rfl (by simp only [List.length_append, List.length_cons, List.length_nil, hfs23]; omega) (by kernel_rfl) (by intro k f hk hex; simp only [List.not_mem_nil] at hex) ?_
    try simp only []
    refine hK22 _ ?_
    refine AWP.ret ?_
    exact hK _ _ _ _ trivial ((Fin.mk (by simp [aRes, aResL, aRes1, idf_Wd', idf_numI, cells_numI, numI_fold]; rfl)).cast (by rw [e.1, e.2]))

set_option maxHeartbeats 2000000 in
theorem lowest_fc {j : Nat} (u d : Int) (hd : d ≠ 0) (bu : Bg j u) (bd : Bg j d) (hj : j ≤ 16777216) : FC Try.prog 146 [rtA u d] (rtA (lowU u d) (lowD u d)) := by
  have hg2 : FC Try.prog 87 [.isl [numC u, numC d]] (numI (gg u d)) := by
    have h := gcd_fc (j := j) [u, d] (by intro z hz; simp only [List.mem_cons, List.not_mem_nil, or_false] at hz; rcases hz with rfl | rfl <;> assumption) (by omega) (by simp)
    rw [gcdL_two] at h; exact h
  have bg := gg_bg bu bd
  have hgp := gg_pos (u := u) hd
  have hdn := dq_neg (u := u) hd
  have bU : Bg j (u / gg u d) := bu.div hgp
  have bD : Bg j (d / gg u d) := bd.div hgp
  have lp := low_pos (u := u) (d := d)
  have ln' := low_neg (u := u) (d := d)
  generalize gg u d = g at *
  refine FC.body Try.func146 rfl (by simp [idfL, idf, idfLL_iff, idf_Wd', idf_numI, cells_numI, numI_fold, rtA, rtC, numC]) (by simp [idfL, idf, idf_Wd', rtA, rtC]) 37 rfl fun nx K hK => ?_
  refine AWP.seqk fun K1 hK1 => ?_
  refine AWP.region (AOPS.all (by simp (disch := first|omega|(simp only[ln];omega)) [idf_Wd', idf_numI, cells_numI, numI_fold, rtA, rtC, numC]; rfl) ?_)
  refine hK1 _ ?_
  refine AWP.seqk fun K2 hK2 => ?_
  refine AWP.region ?_
  refine AOPS.runk 5 (by simp (disch := first|omega|(simp only[ln];omega)) [List.take_succ_cons, List.take_zero, idf_Wd', idf_numI, cells_numI, numI_fold, rtA, rtC, numC]; rfl) ?_
  simp only [List.drop_succ_cons, List.drop_zero]
  refine AOPS.frz1 12 (nx + 1 + 1) 2 [numC u, numC d] (.isl [numC u, numC d]) (by simp [numC]) (by simp [fz, numC]) ?_
  refine AOPS.fcall (hg2) rfl rfl rfl hb87 (by simp (disch := first|omega|(simp only[ln];omega)) [idf_Wd', idf_numI, cells_numI, numI_fold, rtA, rtC, numC]) (by simp (disch := first|omega|(simp only[ln];omega))) (by simp) ?_
  simp only [puts_some, updo]
  refine AOPS.all (by simp (disch := first|omega|(simp only[ln];omega)) [idf_Wd', idf_numI, cells_numI, numI_fold, rtA, rtC, numC]; rfl) ?_
  refine hK2 _ ?_
  refine AWP.seqk fun K3 hK3 => ?_
  refine AWP.region ?_
  refine AOPS.runk 3 (by simp (disch := first|omega|(simp only[ln];omega)) [List.take_succ_cons, List.take_zero, idf_Wd', idf_numI, cells_numI, numI_fold, rtA, rtC, numC]; rfl) ?_
  simp only [List.drop_succ_cons, List.drop_zero]
  refine AOPS.fcall (over_fc u g (by omega) bu bg hj) rfl rfl rfl hb180 (by simp (disch := first|omega|(simp only[ln];omega)) [idf_Wd', idf_numI, cells_numI, numI_fold, rtA, rtC, numC]) (by simp (disch := first|omega|(simp only[ln];omega))) (by simp) ?_
  simp only [puts_some, updo]
  refine AOPS.all (by simp (disch := first|omega|(simp only[ln];omega)) [idf_Wd', idf_numI, cells_numI, numI_fold, rtA, rtC, numC]; rfl) ?_
  refine hK3 _ ?_
  refine AWP.seqk fun K4 hK4 => ?_
  refine AWP.region ?_
  refine AOPS.runk 3 (by simp (disch := first|omega|(simp only[ln];omega)) [List.take_succ_cons, List.take_zero, idf_Wd', idf_numI, cells_numI, numI_fold, rtA, rtC, numC]; rfl) ?_
  simp only [List.drop_succ_cons, List.drop_zero]
  refine AOPS.fcall (over_fc d g (by omega) bd bg hj) rfl rfl rfl hb180 (by simp (disch := first|omega|(simp only[ln];omega)) [idf_Wd', idf_numI, cells_numI, numI_fold, rtA, rtC, numC]) (by simp (disch := first|omega|(simp only[ln];omega))) (by simp) ?_
  simp only [puts_some, updo]
  refine AOPS.all (by simp (disch := first|omega|(simp only[ln];omega)) [idf_Wd', idf_numI, cells_numI, numI_fold, rtA, rtC, numC]; rfl) ?_
  refine hK4 _ ?_
  refine AWP.seqk fun K5 hK5 => ?_
  refine AWP.seqk fun K6 hK6 => ?_
  refine AWP.region (AOPS.all (by simp (disch := first|omega|(simp only[ln];omega)) [idf_Wd', idf_numI, cells_numI, numI_fold, rtA, rtC, numC]; rfl) ?_)
  refine hK6 _ ?_
  refine cond_ok (decide (d / g < 0)) (by simp (disch := first|omega|(simp only[ln];omega))) (fun h29 => ?_) (fun h29 => ?_)
  · try simp only [decide_eq_true_eq, decide_eq_false_iff_not] at h29
    have e := ln' (hdn.1 h29)
    refine AWP.old fun hold => ?_
    refine AWP.draw 4 Try.checked.mixed (by kernel_rfl) (by simp) ?_
    simp only [List.take_succ_cons, List.take_zero, List.drop_succ_cons, List.drop_zero]
    refine DP.runFk 1 (by simp (disch := first|omega|(simp only[ln];omega)) [runDf.eq_def, runF1, runF2, stepF.eq_def, updo.eq_def, hupo.eq_def, opSto1.eq_def, List.take_succ_cons, List.take_zero, idf_Wd', idf_numI, cells_numI, numI_fold, rtA, rtC, numC]; rfl) fun fs7 hfs7 => ?_
    replace hfs7 : fs7.length = 1 := hfs7.trans rfl
    simp only [List.drop_succ_cons, List.drop_zero]
    refine DP.fcall (minus_fc bU (by omega)) rfl rfl rfl hb179 (by simp (disch := first|omega|(simp only[ln];omega)) [idf_Wd', idf_numI, cells_numI, numI_fold, rtA, rtC, numC]) (by simp (disch := first|omega|(simp only[ln];omega))) (by simp) ?_
    simp only [updo]
    refine DP.runF1q (by simp (disch := first|omega|(simp only[ln];omega)) [runDf.eq_def, runF1, runF2, stepF.eq_def, updo.eq_def, hupo.eq_def, opSto1.eq_def, idf_Wd', idf_numI, cells_numI, numI_fold, rtA, rtC, numC]; rfl) fun fq8 hfq8 => ?_
    simp [qids, asksB, Op.operands, topId] at hfq8
    simp only [updo]
    refine DP.fcall (minus_fc bD (by omega)) rfl rfl rfl hb179 (by simp (disch := first|omega|(simp only[ln];omega)) [idf_Wd', idf_numI, cells_numI, numI_fold, rtA, rtC, numC]) (by simp (disch := first|omega|(simp only[ln];omega))) (by simp) ?_
    simp only [updo]
    refine DQ.sto1 (m := 4) [2] _ (by simp (disch := first|omega|(simp only[ln];omega)) [runDf.eq_def, runF1, runF2, stepF.eq_def, updo.eq_def, hupo.eq_def, opSto1.eq_def, idf_Wd', idf_numI, cells_numI, numI_fold, rtA, rtC, numC]; rfl) rfl (by simp only [List.length_append, List.length_cons, List.length_nil, hfs7]; omega) (by kernel_rfl) (by intro k f hk hex; simp only [List.mem_cons, List.not_mem_nil, or_false] at hex; rcases hex with rfl <;> (simp [List.getElem?_append, hfs7] at hk; subst hk; refine ⟨?_, by first | omega | (simp; done) | (simp; omega)⟩; simp [qids, asksB, Op.operands, Call.operands, topId, numS, numI, Wd, hfq8]; try omega)) ?_
    try simp only []
    refine DQ.sto1 (m := 4) [] _ (by simp (disch := first|omega|(simp only[ln];omega)) [runDf.eq_def, runF1, runF2, stepF.eq_def, updo.eq_def, hupo.eq_def, opSto1.eq_def, idf_Wd', idf_numI, cells_numI, numI_fold, rtA, rtC, numC]; rfl) rfl (by simp only [List.length_append, List.length_cons, List.length_nil, hfs7]; omega) (by kernel_rfl) (by intro k f hk hex; simp only [List.not_mem_nil] at hex) ?_
    try simp only []
    refine hK5 _ ?_
    refine AWP.seqk fun K9 hK9 => ?_
    refine AWP.region (AOPS.all (by simp (disch := first|omega|(simp only[ln];omega)) [idf_Wd', idf_numI, cells_numI, numI_fold, rtA, rtC, numC]; rfl) ?_)
    refine hK9 _ ?_
    refine AWP.ret ?_
    exact hK _ _ _ _ trivial ((Fin.mk (by simp [aRes, aResL, aRes1, idf_Wd', idf_numI, cells_numI, numI_fold, rtA, rtC, numC]; rfl)).cast (by rw [e.1, e.2]; simp [rtA, rtC]))
  · try simp only [decide_eq_true_eq, decide_eq_false_iff_not] at h29
    have e := lp (fun h => h29 (hdn.2 h))
    refine AWP.skip ?_
    refine hK5 _ ?_
    refine AWP.seqk fun K10 hK10 => ?_
    refine AWP.region (AOPS.all (by simp (disch := first|omega|(simp only[ln];omega)) [idf_Wd', idf_numI, cells_numI, numI_fold, rtA, rtC, numC]; rfl) ?_)
    refine hK10 _ ?_
    refine AWP.ret ?_
    exact hK _ _ _ _ trivial ((Fin.mk (by simp [aRes, aResL, aRes1, idf_Wd', idf_numI, cells_numI, numI_fold, rtA, rtC, numC]; rfl)).cast (by rw [e.1, e.2]; rfl))

set_option maxHeartbeats 2000000 in
theorem told_fc {j : Nat} (u d : Int) (bu : Bg j u) (bd : Bg j d) (hj : j ≤ 16777216) : FC Try.prog 110 [rtA u d] (.tup [.agg [.int .u64 ((told u d).1).up.a, .int .u64 ((told u d).1).up.b, .int .u64 ((told u d).1).up.c, .int .u64 ((told u d).1).up.d, .int .u64 ((told u d).1).down.a, .int .u64 ((told u d).1).down.b, .int .u64 ((told u d).1).down.c, .int .u64 ((told u d).1).down.d], .bool (told u d).2]) := by
  obtain ⟨cs, hsf, hse⟩ : ∃ c : Int, FC Try.prog 85 [numI d] (.int .i64 c) ∧ (c == 0) = decide (d = 0) := ⟨_, sign_fc d, by
    by_cases h : d = 0
    · subst h; rfl
    · have : (if d < 0 then (-1 : Int) else if d > 0 then 1 else 0) ≠ 0 := by split <;> (try split) <;> omega
      rw [beq_eq_false_iff_ne.2 this]; simp [h]⟩
  refine FC.body Try.func110 rfl (by simp [idfL, idf, idfLL_iff, idf_Wd', idf_numI, cells_numI, numI_fold, rtA, rtC]) (by simp [idfL, idf, idfLL_iff, idf_Wd', idf_numI, cells_numI, numI_fold, rtA, rtC]) 37 rfl fun nx K hK => ?_
  refine AWP.seqk fun K1 hK1 => ?_
  refine AWP.region (AOPS.all (by simp (disch := first|omega|(simp only[ln];omega)) [idf_Wd', idf_numI, cells_numI, numI_fold, rtA, rtC]; rfl) ?_)
  refine hK1 _ ?_
  refine AWP.seqk fun K2 hK2 => ?_
  refine AWP.seqk fun K3 hK3 => ?_
  refine AWP.region ?_
  refine AOPS.runk 2 (by simp (disch := first|omega|(simp only[ln];omega)) [List.take_succ_cons, List.take_zero, idf_Wd', idf_numI, cells_numI, numI_fold, rtA, rtC]; rfl) ?_
  simp only [List.drop_succ_cons, List.drop_zero]
  refine AOPS.fcall (hsf) rfl rfl rfl hb85 (by simp (disch := first|omega|(simp only[ln];omega)) [idf_Wd', idf_numI, cells_numI, numI_fold, rtA, rtC]) (by simp (disch := first|omega|(simp only[ln];omega))) (by simp) ?_
  simp only [puts_some, updo]
  refine AOPS.all (by simp (disch := first|omega|(simp only[ln];omega)) [idf_Wd', idf_numI, cells_numI, numI_fold, rtA, rtC]; rfl) ?_
  refine hK3 _ ?_
  refine cond_ok (decide (d = 0)) (by simp (disch := first|omega|(simp only[ln];omega)) [hse]) (fun h11 => ?_) (fun h11 => ?_)
  · try simp only [decide_eq_true_eq, decide_eq_false_iff_not] at h11
    refine AWP.seqk fun K4 hK4 => ?_
    refine AWP.region (AOPS.all (by simp (disch := first|omega|(simp only[ln];omega)) [idf_Wd', idf_numI, cells_numI, numI_fold, rtA, rtC]; rfl) ?_)
    refine hK4 _ ?_
    refine AWP.ret ?_
    exact hK _ _ _ _ trivial ((Fin.mk (by simp [aRes, aResL, aRes1, idf_Wd', idf_numI, cells_numI, numI_fold, rtA, rtC]; rfl)).cast (by rw [h11, told_zero]; rfl))
  · try simp only [decide_eq_true_eq, decide_eq_false_iff_not] at h11
    have hd : d ≠ 0 := h11
    have w1 := wide_fc (lowU_bg (u := u) hd bu) (by omega)
    have w2 := wide_fc (lowD_bg (u := u) hd bd) (by omega)
    rw [wdT_l] at w1 w2
    unfold W4.l at w1 w2
    have ht := told_fit (u := u) hd
    refine AWP.skip ?_
    refine hK2 _ ?_
    refine AWP.seqk fun K5 hK5 => ?_
    refine AWP.region ?_
    refine AOPS.runk 1 (by simp (disch := first|omega|(simp only[ln];omega)) [List.take_succ_cons, List.take_zero, idf_Wd', idf_numI, cells_numI, numI_fold, rtA, rtC]; rfl) ?_
    simp only [List.drop_succ_cons, List.drop_zero]
    refine AOPS.fcall (lowest_fc u d hd bu bd hj) rfl rfl rfl hb146 (by simp (disch := first|omega|(simp only[ln];omega)) [idf_Wd', idf_numI, cells_numI, numI_fold, rtA, rtC]) (by simp (disch := first|omega|(simp only[ln];omega))) (by simp) ?_
    simp only [puts_some, updo]
    refine AOPS.all (by simp (disch := first|omega|(simp only[ln];omega)) [idf_Wd', idf_numI, cells_numI, numI_fold, rtA, rtC]; rfl) ?_
    refine hK5 _ ?_
    refine AWP.seqk fun K6 hK6 => ?_
    refine AWP.region ?_
    refine AOPS.runk 2 (by simp (disch := first|omega|(simp only[ln];omega)) [List.take_succ_cons, List.take_zero, idf_Wd', idf_numI, cells_numI, numI_fold, rtA, rtC]; rfl) ?_
    simp only [List.drop_succ_cons, List.drop_zero]
    refine AOPS.fcall (w1) rfl rfl rfl hb90 (by simp (disch := first|omega|(simp only[ln];omega)) [idf_Wd', idf_numI, cells_numI, numI_fold, rtA, rtC]) (by simp (disch := first|omega|(simp only[ln];omega))) (by simp) ?_
    simp only [puts_some, updo]
    refine AOPS.all (by simp (disch := first|omega|(simp only[ln];omega)) [idf_Wd', idf_numI, cells_numI, numI_fold, rtA, rtC]; rfl) ?_
    refine hK6 _ ?_
    refine AWP.seqk fun K7 hK7 => ?_
    refine AWP.region ?_
    refine AOPS.runk 2 (by simp (disch := first|omega|(simp only[ln];omega)) [List.take_succ_cons, List.take_zero, idf_Wd', idf_numI, cells_numI, numI_fold, rtA, rtC]; rfl) ?_
    simp only [List.drop_succ_cons, List.drop_zero]
    refine AOPS.fcall (w2) rfl rfl rfl hb90 (by simp (disch := first|omega|(simp only[ln];omega)) [idf_Wd', idf_numI, cells_numI, numI_fold, rtA, rtC]) (by simp (disch := first|omega|(simp only[ln];omega))) (by simp) ?_
    simp only [puts_some, updo]
    refine AOPS.all (by simp (disch := first|omega|(simp only[ln];omega)) [idf_Wd', idf_numI, cells_numI, numI_fold, rtA, rtC]; rfl) ?_
    refine hK7 _ ?_
    refine AWP.seqk fun K8 hK8 => ?_
    refine AWP.seqk fun K9 hK9 => ?_
    cases hf : fits (lowU u d)
    · refine AWP.region (AOPS.all (by simp (disch := first|omega|(simp only[ln];omega)) [idf_Wd', idf_numI, cells_numI, numI_fold, rtA, rtC, hf]; rfl) ?_)
      refine hK9 _ ?_
      refine cond_ok _ (by simp (disch := first|omega|(simp only[ln];omega)); rfl) (fun h32 => ?_) (fun h32 => ?_)
      · try simp only [decide_eq_true_eq, decide_eq_false_iff_not] at h32
        refine AWP.seqk fun K10 hK10 => ?_
        refine AWP.region (AOPS.all (by simp (disch := first|omega|(simp only[ln];omega)) [idf_Wd', idf_numI, cells_numI, numI_fold, rtA, rtC]; rfl) ?_)
        refine hK10 _ ?_
        refine AWP.ret ?_
        exact hK _ _ _ _ trivial ((Fin.mk (by simp [aRes, aResL, aRes1, idf_Wd', idf_numI, cells_numI, numI_fold, rtA, rtC]; rfl)).cast (by rw [ht, hf]; rfl))
      · simp at h32
    · refine AWP.region (AOPS.all (by simp (disch := first|omega|(simp only[ln];omega)) [idf_Wd', idf_numI, cells_numI, numI_fold, rtA, rtC, hf]; rfl) ?_)
      refine hK9 _ ?_
      refine cond_ok (!fits (lowD u d)) (by simp (disch := first|omega|(simp only[ln];omega))) (fun h32 => ?_) (fun h32 => ?_)
      · try simp only [decide_eq_true_eq, decide_eq_false_iff_not] at h32
        have hf2 : fits (lowD u d) = false := by simpa using h32
        refine AWP.seqk fun K11 hK11 => ?_
        refine AWP.region (AOPS.all (by simp (disch := first|omega|(simp only[ln];omega)) [idf_Wd', idf_numI, cells_numI, numI_fold, rtA, rtC]; rfl) ?_)
        refine hK11 _ ?_
        refine AWP.ret ?_
        exact hK _ _ _ _ trivial ((Fin.mk (by simp [aRes, aResL, aRes1, idf_Wd', idf_numI, cells_numI, numI_fold, rtA, rtC]; rfl)).cast (by rw [ht, hf, hf2]; rfl))
      · try simp only [decide_eq_true_eq, decide_eq_false_iff_not] at h32
        have hf2 : fits (lowD u d) = true := by simpa using h32
        refine AWP.skip ?_
        refine hK8 _ ?_
        refine AWP.seqk fun K12 hK12 => ?_
        refine AWP.region (AOPS.all (by simp (disch := first|omega|(simp only[ln];omega)) [idf_Wd', idf_numI, cells_numI, numI_fold, rtA, rtC]; rfl) ?_)
        refine hK12 _ ?_
        refine AWP.ret ?_
        exact hK _ _ _ _ trivial ((Fin.mk (by simp [aRes, aResL, aRes1, idf_Wd', idf_numI, cells_numI, numI_fold, rtA, rtC]; rfl)).cast (by rw [ht, hf, hf2]; rfl))

set_option maxHeartbeats 1000000 in
theorem ratio_fc (a : Rt) (ha : a.ok) : FC Try.prog 112 [a.av] (rtA a.up.v a.down.v) := by
  
  refine FC.body Try.func112 rfl (by simp [idfL, idf, idfLL_iff, idf_Wd', idf_numI, cells_numI, numI_fold, Rt.av, Rt.cells, wdI]) (by simp [idfL, idf, idf_Wd', rtA, rtC]) 10 rfl fun nx K hK => ?_
  refine AWP.seqk fun K1 hK1 => ?_
  refine AWP.region (AOPS.all (by simp (disch := first|omega|(simp only[ln];omega)) [idf_Wd', idf_numI, cells_numI, numI_fold, Rt.av, Rt.cells, wdI]; rfl) ?_)
  refine hK1 _ ?_
  refine AWP.seqk fun K2 hK2 => ?_
  refine AWP.draw 7 Try.checked.mixed (by kernel_rfl) (by simp) ?_
  simp only [List.take_succ_cons, List.take_zero, List.drop_succ_cons, List.drop_zero]
  refine DP.runFk 2 (by simp (disch := first|omega|(simp only[ln];omega)) [runDf.eq_def, runF1, runF2, stepF.eq_def, updo.eq_def, hupo.eq_def, opSto1.eq_def, List.take_succ_cons, List.take_zero, idf_Wd', idf_numI, cells_numI, numI_fold, Rt.av, Rt.cells, wdI]; rfl) fun fs3 hfs3 => ?_
  replace hfs3 : fs3.length = 2 := hfs3.trans rfl
  simp only [List.drop_succ_cons, List.drop_zero]
  refine DP.fcall (wideNum_fc a.up.a a.up.b a.up.c a.up.d ha.1.1 ha.1.2.1 ha.1.2.2.1 ha.1.2.2.2) rfl rfl rfl hb91 (by simp (disch := first|omega|(simp only[ln];omega)) [idf_Wd', idf_numI, cells_numI, numI_fold, Rt.av, Rt.cells, wdI]) (by simp (disch := first|omega|(simp only[ln];omega))) (by simp) ?_
  simp only [updo]
  refine DP.runFk 2 (by simp (disch := first|omega|(simp only[ln];omega)) [runDf.eq_def, runF1, runF2, stepF.eq_def, updo.eq_def, hupo.eq_def, opSto1.eq_def, List.take_succ_cons, List.take_zero, idf_Wd', idf_numI, cells_numI, numI_fold, Rt.av, Rt.cells, wdI]; rfl) fun fs4 hfs4 => ?_
  replace hfs4 : fs4.length = 2 := hfs4.trans rfl
  simp only [List.drop_succ_cons, List.drop_zero]
  refine DP.fcall (wideNum_fc a.down.a a.down.b a.down.c a.down.d ha.2.1 ha.2.2.1 ha.2.2.2.1 ha.2.2.2.2) rfl rfl rfl hb91 (by simp (disch := first|omega|(simp only[ln];omega)) [idf_Wd', idf_numI, cells_numI, numI_fold, Rt.av, Rt.cells, wdI]) (by simp (disch := first|omega|(simp only[ln];omega))) (by simp) ?_
  simp only [updo]
  refine DP.runFk 1 (by simp (disch := first|omega|(simp only[ln];omega)) [runDf.eq_def, runF1, runF2, stepF.eq_def, updo.eq_def, hupo.eq_def, opSto1.eq_def, List.take_succ_cons, List.take_zero, idf_Wd', idf_numI, cells_numI, numI_fold, Rt.av, Rt.cells, wdI]; rfl) fun fs5 hfs5 => ?_
  replace hfs5 : fs5.length = 1 := hfs5.trans rfl
  simp only [List.drop_succ_cons, List.drop_zero]
  refine DQ.runF (m := 7) (by simp only [List.length_append, List.length_cons, List.length_nil, hfs3, hfs4, hfs5]; omega) _ _ _ (by kernel_rfl) rfl (by simp (disch := first|omega|(simp only[ln];omega)) [runDf.eq_def, runF1, runF2, stepF.eq_def, updo.eq_def, hupo.eq_def, opSto1.eq_def, idf_Wd', idf_numI, cells_numI, numI_fold, Rt.av, Rt.cells, wdI]; rfl) ?_
  refine hK2 _ ?_
  refine AWP.ret ?_
  exact hK _ _ _ _ trivial ((Fin.mk (by simp [aRes, aResL, aRes1, idf_Wd', idf_numI, cells_numI, numI_fold, Rt.av, Rt.cells, wdI]; rfl)).cast (by rfl))

set_option maxHeartbeats 2000000 in
theorem ratioOkI_fc (a : Rt) (ha : a.ok) : FC Try.prog 111 [a.av] (.bool a.good) := by
  have hra := ratio_fc a ha
  have bU := W4.bg ha.1
  have bD := W4.bg ha.2
  have hgd : a.good = (decide (0 < a.down.v) && decide (gg a.up.v a.down.v = 1)) := by unfold Rt.good gg; congr 1; apply Bool.eq_iff_iff.2; simp; omega
  generalize a.up.v = u at *
  generalize a.down.v = d at *
  have hs1 : 0 < d → FC Try.prog 85 [numI d] (.int .i64 1) := fun h => by
    have h1 := sign_fc d
    rw [if_neg (by omega), if_pos h] at h1; exact h1
  have hs0 : ¬ 0 < d → ∃ c : Int, FC Try.prog 85 [numI d] (.int .i64 c) ∧ c ≤ 0 := fun h => ⟨_, sign_fc d, by split <;> (try split) <;> omega⟩
  have bG := gg_bg bU bD
  obtain ⟨cc, hcf, hce⟩ : ∃ c : Int, FC Try.prog 88 [numI (gg u d), numI 1] (.int .i64 c) ∧ (c == 0) = decide (gg u d = 1) := ⟨_, cmp_fc bG (Bg.i64 (n := 1) (by omega) (by omega)) (by omega) (by omega), one_cmp _⟩
  have hg2 : FC Try.prog 87 [.isl [numC u, numC d]] (numI (gg u d)) := by
    have h := gcd_fc (j := 4) [u, d] (by intro z hz; simp only [List.mem_cons, List.not_mem_nil, or_false] at hz; rcases hz with rfl | rfl <;> assumption) (by omega) (by simp)
    rw [gcdL_two] at h; exact h
  refine FC.body Try.func111 rfl (by simp [idfL, idf, idfLL_iff, idf_Wd', idf_numI, cells_numI, numI_fold, Rt.av, Rt.cells, rtA, rtC, numC]) (by simp [idfL, idf, idfLL_iff, idf_Wd', idf_numI, cells_numI, numI_fold, Rt.av, Rt.cells, rtA, rtC, numC]) 21 rfl fun nx K hK => ?_
  refine AWP.seqk fun K1 hK1 => ?_
  refine AWP.region (AOPS.all (by simp (disch := first|omega|(simp only[ln];omega)) [idf_Wd', idf_numI, cells_numI, numI_fold, Rt.av, Rt.cells, rtA, rtC, numC]; rfl) ?_)
  refine hK1 _ ?_
  refine AWP.seqk fun K2 hK2 => ?_
  refine AWP.region ?_
  refine AOPS.runk 1 (by simp (disch := first|omega|(simp only[ln];omega)) [List.take_succ_cons, List.take_zero, idf_Wd', idf_numI, cells_numI, numI_fold, Rt.av, Rt.cells, rtA, rtC, numC]; rfl) ?_
  simp only [List.drop_succ_cons, List.drop_zero]
  refine AOPS.fcall (hra) rfl rfl rfl hb112 (by simp (disch := first|omega|(simp only[ln];omega)) [idf_Wd', idf_numI, cells_numI, numI_fold, Rt.av, Rt.cells, rtA, rtC, numC]) (by simp (disch := first|omega|(simp only[ln];omega))) (by simp) ?_
  simp only [puts_some, updo]
  refine AOPS.all (by simp (disch := first|omega|(simp only[ln];omega)) [idf_Wd', idf_numI, cells_numI, numI_fold, Rt.av, Rt.cells, rtA, rtC, numC]; rfl) ?_
  refine hK2 _ ?_
  refine AWP.seqk fun K3 hK3 => ?_
  by_cases hw : 0 < d
  · refine AWP.region ?_
    refine AOPS.runk 2 (by simp (disch := first|omega|(simp only[ln];omega)) [List.take_succ_cons, List.take_zero, idf_Wd', idf_numI, cells_numI, numI_fold, Rt.av, Rt.cells, rtA, rtC, numC]; rfl) ?_
    simp only [List.drop_succ_cons, List.drop_zero]
    refine AOPS.fcall (hs1 hw) rfl rfl rfl hb85 (by simp (disch := first|omega|(simp only[ln];omega)) [idf_Wd', idf_numI, cells_numI, numI_fold, Rt.av, Rt.cells, rtA, rtC, numC]) (by simp (disch := first|omega|(simp only[ln];omega))) (by simp) ?_
    simp only [puts_some, updo]
    refine AOPS.runk 7 (by simp (disch := first|omega|(simp only[ln];omega)) [List.take_succ_cons, List.take_zero, idf_Wd', idf_numI, cells_numI, numI_fold, Rt.av, Rt.cells, rtA, rtC, numC]; rfl) ?_
    simp only [List.drop_succ_cons, List.drop_zero]
    refine AOPS.frz1 15 (nx + 1 + 1) 2 [numC u, numC d] (.isl [numC u, numC d]) (by simp [numC]) (by simp [fz, numC]) ?_
    refine AOPS.fcall (hg2) rfl rfl rfl hb87 (by simp (disch := first|omega|(simp only[ln];omega)) [idf_Wd', idf_numI, cells_numI, numI_fold, Rt.av, Rt.cells, rtA, rtC, numC]) (by simp (disch := first|omega|(simp only[ln];omega))) (by simp) ?_
    simp only [puts_some, updo]
    refine AOPS.fcall (whole_fc 1 (by omega) (by omega)) rfl rfl rfl hb89 (by simp (disch := first|omega|(simp only[ln];omega)) [idf_Wd', idf_numI, cells_numI, numI_fold, Rt.av, Rt.cells, rtA, rtC, numC]) (by simp (disch := first|omega|(simp only[ln];omega))) (by simp) ?_
    simp only [puts_some, updo]
    refine AOPS.fcall (hcf) rfl rfl rfl hb88 (by simp (disch := first|omega|(simp only[ln];omega)) [idf_Wd', idf_numI, cells_numI, numI_fold, Rt.av, Rt.cells, rtA, rtC, numC]) (by simp (disch := first|omega|(simp only[ln];omega))) (by simp) ?_
    simp only [puts_some, updo]
    refine AOPS.all (by simp (disch := first|omega|(simp only[ln];omega)) [idf_Wd', idf_numI, cells_numI, numI_fold, Rt.av, Rt.cells, rtA, rtC, numC]; rfl) ?_
    refine hK3 _ ?_
    refine AWP.ret ?_
    exact hK _ _ _ _ trivial ((Fin.mk (by simp [aRes, aResL, aRes1, idf_Wd', idf_numI, cells_numI, numI_fold, Rt.av, Rt.cells, rtA, rtC, numC]; rfl)).cast (by rw [hgd]; simp [hw, hce]))
  · obtain ⟨c0, hc0, hc1⟩ := hs0 hw
    have c1 : decide (0 < c0) = false := by simp; omega
    refine AWP.region ?_
    refine AOPS.runk 2 (by simp (disch := first|omega|(simp only[ln];omega)) [List.take_succ_cons, List.take_zero, idf_Wd', idf_numI, cells_numI, numI_fold, Rt.av, Rt.cells, rtA, rtC, numC, c1]; rfl) ?_
    simp only [List.drop_succ_cons, List.drop_zero]
    refine AOPS.fcall (hc0) rfl rfl rfl hb85 (by simp (disch := first|omega|(simp only[ln];omega)) [idf_Wd', c1, idf_numI, cells_numI, numI_fold, Rt.av, Rt.cells, rtA, rtC, numC]) (by simp (disch := first|omega|(simp only[ln];omega)) [c1]) (by simp) ?_
    simp only [puts_some, updo]
    refine AOPS.all (by simp (disch := first|omega|(simp only[ln];omega)) [idf_Wd', idf_numI, cells_numI, numI_fold, Rt.av, Rt.cells, rtA, rtC, numC, c1]; rfl) ?_
    refine hK3 _ ?_
    refine AWP.ret ?_
    exact hK _ _ _ _ trivial ((Fin.mk (by simp [aRes, aResL, aRes1, idf_Wd', idf_numI, cells_numI, numI_fold, Rt.av, Rt.cells, rtA, rtC, numC]; rfl)).cast (by rw [hgd]; simp [hw]))

end Go.Proofs.Ytmaebeknmiomnaa

/- Walks: fractions of the program: sums, products, order. -/
namespace Go.Proofs.Ytmaebeknmiomnaa
open Go Go.RowKit
set_option linter.unusedSimpArgs false
set_option linter.unusedVariables false
set_option maxRecDepth 100000
attribute [local simp] List.getElem?_cons_zero List.getElem?_cons_succ List.getElem?_toArray runOps stepOp.eq_def agd.eq_def dstOk.eq_def opVal.eq_def opNew.eq_def opSto.eq_def ev.eq_def cv.eq_def puts_some puts_none upd_ap lst.eq_def aBin.eq_def aUn.eq_def aBi_str aBi_isl aBi_osl aBi_nsl aBi_max aBi_min aBi_max3 aConv.eq_def aLd.eq_def aLoad.eq_def aField.eq_def aFld.eq_def aIdx_isl aIdx_osl aSlc_isl aSlc_osl aSlc_str aSlc_nsl bnd.eq_def evs_nil evs_cons aBuild.eq_def aFill splice.eq_def cells_agg cells_int cells_bool cells_str cells_nil cells_nsl cells_isl cells_osl cells_ptr cells_ip cells_fn cells_Wd one_int one_bool one_str one_nil one_nsl one_isl one_osl one_ptr one_ip one_fn one_Wd aSets hupd_eq hupd_ne wrap_i64s wrap_u64s wrap_u32s wrap_u8s wd_getD wd_set wd_len wd_replicate wd_one wd_fold fz_osl hupd_same aSix.eq_def aEqS.eq_def aEqB_bool aEqB_nsl aEqB_nil
attribute [local simp] szT4 byT4 agT4 unT4 zoT4 szT24 byT24 agT24 unT24 zoT24 szT26 byT26 agT26 flT26 fdT26_0 fdT26_1 fdT26_2 fdT26_3 zoT26 szT51 byT51 agT51 flT51 fdT51_0 fdT51_1 zoT51 szT117 byT117 agT117 elT117 unT117 zoT117 szT119 byT119 agT119 flT119 fdT119_0 fdT119_1 zoT119 szT143 byT143 agT143 flT143 fdT143_0 fdT143_1 zoT143

set_option maxHeartbeats 2000000 in
theorem ratioMulI_fc (a b : Rt) (ha : a.ok) (hb : b.ok) : FC Try.prog 34 [a.av, b.av] (.tup [.agg [.int .u64 ((mulF a b).1).up.a, .int .u64 ((mulF a b).1).up.b, .int .u64 ((mulF a b).1).up.c, .int .u64 ((mulF a b).1).up.d, .int .u64 ((mulF a b).1).down.a, .int .u64 ((mulF a b).1).down.b, .int .u64 ((mulF a b).1).down.c, .int .u64 ((mulF a b).1).down.d], .bool (mulF a b).2]) := by
  have aU := W4.bg ha.1
  have aD := W4.bg ha.2
  have bU := W4.bg hb.1
  have bD := W4.bg hb.2
  have bdd := aD.mul bD
  refine FC.body Try.func34 rfl (by simp [idfL, idf, idfLL_iff, idf_Wd', idf_numI, cells_numI, numI_fold, Rt.av, Rt.cells, rtA, rtC]) (by simp [idfL, idf, idfLL_iff, idf_Wd', idf_numI, cells_numI, numI_fold, Rt.av, Rt.cells, rtA, rtC]) 35 rfl fun nx K hK => ?_
  refine AWP.seqk fun K1 hK1 => ?_
  refine AWP.region (AOPS.all (by simp (disch := first|omega|(simp only[ln];omega)) [idf_Wd', idf_numI, cells_numI, numI_fold, Rt.av, Rt.cells, rtA, rtC]; rfl) ?_)
  refine hK1 _ ?_
  refine AWP.seqk fun K2 hK2 => ?_
  refine AWP.seqk fun K3 hK3 => ?_
  cases hga : a.good
  · refine AWP.region ?_
    refine AOPS.runk 1 (by simp (disch := first|omega|(simp only[ln];omega)) [List.take_succ_cons, List.take_zero, idf_Wd', idf_numI, cells_numI, numI_fold, Rt.av, Rt.cells, rtA, rtC, hga]; rfl) ?_
    simp only [List.drop_succ_cons, List.drop_zero]
    refine AOPS.fcall (ratioOkI_fc a ha) rfl rfl rfl hb111 (by simp (disch := first|omega|(simp only[ln];omega)) [idf_Wd', hga, idf_numI, cells_numI, numI_fold, Rt.av, Rt.cells, rtA, rtC]) (by simp (disch := first|omega|(simp only[ln];omega)) [hga]) (by simp) ?_
    simp only [puts_some, updo]
    refine AOPS.all (by simp (disch := first|omega|(simp only[ln];omega)) [idf_Wd', idf_numI, cells_numI, numI_fold, Rt.av, Rt.cells, rtA, rtC, hga]; rfl) ?_
    refine hK3 _ ?_
    refine cond_ok _ (by simp (disch := first|omega|(simp only[ln];omega)); rfl) (fun h15 => ?_) (fun h15 => ?_)
    · try simp only [decide_eq_true_eq, decide_eq_false_iff_not] at h15
      refine AWP.seqk fun K4 hK4 => ?_
      refine AWP.region (AOPS.all (by simp (disch := first|omega|(simp only[ln];omega)) [idf_Wd', idf_numI, cells_numI, numI_fold, Rt.av, Rt.cells, rtA, rtC]; rfl) ?_)
      refine hK4 _ ?_
      refine AWP.ret ?_
      exact hK _ _ _ _ trivial ((Fin.mk (by simp [aRes, aResL, aRes1, idf_Wd', idf_numI, cells_numI, numI_fold, Rt.av, Rt.cells, rtA, rtC]; rfl)).cast (by unfold mulF; rw [hga]; rfl))
    · simp at h15
  · refine AWP.region ?_
    refine AOPS.runk 1 (by simp (disch := first|omega|(simp only[ln];omega)) [List.take_succ_cons, List.take_zero, idf_Wd', idf_numI, cells_numI, numI_fold, Rt.av, Rt.cells, rtA, rtC, hga]; rfl) ?_
    simp only [List.drop_succ_cons, List.drop_zero]
    refine AOPS.fcall (ratioOkI_fc a ha) rfl rfl rfl hb111 (by simp (disch := first|omega|(simp only[ln];omega)) [idf_Wd', hga, idf_numI, cells_numI, numI_fold, Rt.av, Rt.cells, rtA, rtC]) (by simp (disch := first|omega|(simp only[ln];omega)) [hga]) (by simp) ?_
    simp only [puts_some, updo]
    refine AOPS.runk 3 (by simp (disch := first|omega|(simp only[ln];omega)) [List.take_succ_cons, List.take_zero, idf_Wd', idf_numI, cells_numI, numI_fold, Rt.av, Rt.cells, rtA, rtC, hga]; rfl) ?_
    simp only [List.drop_succ_cons, List.drop_zero]
    refine AOPS.fcall (ratioOkI_fc b hb) rfl rfl rfl hb111 (by simp (disch := first|omega|(simp only[ln];omega)) [idf_Wd', hga, idf_numI, cells_numI, numI_fold, Rt.av, Rt.cells, rtA, rtC]) (by simp (disch := first|omega|(simp only[ln];omega)) [hga]) (by simp) ?_
    simp only [puts_some, updo]
    refine AOPS.all (by simp (disch := first|omega|(simp only[ln];omega)) [idf_Wd', idf_numI, cells_numI, numI_fold, Rt.av, Rt.cells, rtA, rtC, hga]; rfl) ?_
    refine hK3 _ ?_
    refine cond_ok (!b.good) (by simp (disch := first|omega|(simp only[ln];omega))) (fun h15 => ?_) (fun h15 => ?_)
    · try simp only [decide_eq_true_eq, decide_eq_false_iff_not] at h15
      have hgb : b.good = false := by simpa using h15
      refine AWP.seqk fun K5 hK5 => ?_
      refine AWP.region (AOPS.all (by simp (disch := first|omega|(simp only[ln];omega)) [idf_Wd', idf_numI, cells_numI, numI_fold, Rt.av, Rt.cells, rtA, rtC]; rfl) ?_)
      refine hK5 _ ?_
      refine AWP.ret ?_
      exact hK _ _ _ _ trivial ((Fin.mk (by simp [aRes, aResL, aRes1, idf_Wd', idf_numI, cells_numI, numI_fold, Rt.av, Rt.cells, rtA, rtC]; rfl)).cast (by unfold mulF; rw [hga, hgb]; rfl))
    · try simp only [decide_eq_true_eq, decide_eq_false_iff_not] at h15
      have hgb : b.good = true := by simpa using h15
      refine AWP.skip ?_
      refine hK2 _ ?_
      refine AWP.seqk fun K6 hK6 => ?_
      refine AWP.old fun hold => ?_
      refine AWP.draw 6 Try.checked.mixed (by kernel_rfl) (by simp) ?_
      simp only [List.take_succ_cons, List.take_zero, List.drop_succ_cons, List.drop_zero]
      refine DP.runFk 1 (by simp (disch := first|omega|(simp only[ln];omega)) [runDf.eq_def, runF1, runF2, stepF.eq_def, updo.eq_def, hupo.eq_def, opSto1.eq_def, List.take_succ_cons, List.take_zero, idf_Wd', idf_numI, cells_numI, numI_fold, Rt.av, Rt.cells, rtA, rtC]; rfl) fun fs7 hfs7 => ?_
      replace hfs7 : fs7.length = 1 := hfs7.trans rfl
      simp only [List.drop_succ_cons, List.drop_zero]
      refine DP.fcall (ratio_fc a ha) rfl rfl rfl hb112 (by simp (disch := first|omega|(simp only[ln];omega)) [idf_Wd', idf_numI, cells_numI, numI_fold, Rt.av, Rt.cells, rtA, rtC]) (by simp (disch := first|omega|(simp only[ln];omega))) (by simp) ?_
      simp only [updo]
      refine DP.runF1q (by simp (disch := first|omega|(simp only[ln];omega)) [runDf.eq_def, runF1, runF2, stepF.eq_def, updo.eq_def, hupo.eq_def, opSto1.eq_def, idf_Wd', idf_numI, cells_numI, numI_fold, Rt.av, Rt.cells, rtA, rtC]; rfl) fun fq8 hfq8 => ?_
      simp [qids, asksB, Op.operands, topId] at hfq8
      simp only [updo]
      refine DP.fcall (ratio_fc b hb) rfl rfl rfl hb112 (by simp (disch := first|omega|(simp only[ln];omega)) [idf_Wd', idf_numI, cells_numI, numI_fold, Rt.av, Rt.cells, rtA, rtC]) (by simp (disch := first|omega|(simp only[ln];omega))) (by simp) ?_
      simp only [updo]
      refine DP.runFk 2 (by simp (disch := first|omega|(simp only[ln];omega)) [runDf.eq_def, runF1, runF2, stepF.eq_def, updo.eq_def, hupo.eq_def, opSto1.eq_def, List.take_succ_cons, List.take_zero, idf_Wd', idf_numI, cells_numI, numI_fold, Rt.av, Rt.cells, rtA, rtC]; rfl) fun fs9 hfs9 => ?_
      replace hfs9 : fs9.length = 2 := hfs9.trans rfl
      simp only [List.drop_succ_cons, List.drop_zero]
      refine DQ.sto1 (m := 6) [2] _ (by simp (disch := first|omega|(simp only[ln];omega)) [runDf.eq_def, runF1, runF2, stepF.eq_def, updo.eq_def, hupo.eq_def, opSto1.eq_def, idf_Wd', idf_numI, cells_numI, numI_fold, Rt.av, Rt.cells, rtA, rtC]; rfl) rfl (by simp only [List.length_append, List.length_cons, List.length_nil, hfs7, hfs9]; omega) (by kernel_rfl) (by intro k f hk hex; simp only [List.mem_cons, List.not_mem_nil, or_false] at hex; rcases hex with rfl <;> (simp [List.getElem?_append, hfs7, hfs9] at hk; subst hk; refine ⟨?_, by first | omega | (simp; done) | (simp; omega)⟩; simp [qids, asksB, Op.operands, Call.operands, topId, numS, numI, Wd, hfq8]; try omega)) ?_
      try simp only []
      refine DQ.sto1 (m := 6) [] _ (by simp (disch := first|omega|(simp only[ln];omega)) [runDf.eq_def, runF1, runF2, stepF.eq_def, updo.eq_def, hupo.eq_def, opSto1.eq_def, idf_Wd', idf_numI, cells_numI, numI_fold, Rt.av, Rt.cells, rtA, rtC]; rfl) rfl (by simp only [List.length_append, List.length_cons, List.length_nil, hfs7, hfs9]; omega) (by kernel_rfl) (by intro k f hk hex; simp only [List.not_mem_nil] at hex) ?_
      try simp only []
      refine hK6 _ ?_
      refine AWP.seqk fun K10 hK10 => ?_
      refine AWP.draw 14 Try.checked.mixed (by kernel_rfl) (by simp) ?_
      simp only [List.take_succ_cons, List.take_zero, List.drop_succ_cons, List.drop_zero]
      refine DP.runFk 4 (by simp (disch := first|omega|(simp only[ln];omega)) [runDf.eq_def, runF1, runF2, stepF.eq_def, updo.eq_def, hupo.eq_def, opSto1.eq_def, List.take_succ_cons, List.take_zero, idf_Wd', idf_numI, cells_numI, numI_fold, Rt.av, Rt.cells, rtA, rtC]; rfl) fun fs11 hfs11 => ?_
      replace hfs11 : fs11.length = 4 := hfs11.trans rfl
      simp only [List.drop_succ_cons, List.drop_zero]
      refine DP.fcall (by_fc aU bU (by omega) (by omega)) rfl rfl rfl hb92 (by simp (disch := first|omega|(simp only[ln];omega)) [idf_Wd', idf_numI, cells_numI, numI_fold, Rt.av, Rt.cells, rtA, rtC]) (by simp (disch := first|omega|(simp only[ln];omega))) (by simp) ?_
      simp only [updo]
      refine DP.runFk 4 (by simp (disch := first|omega|(simp only[ln];omega)) [runDf.eq_def, runF1, runF2, stepF.eq_def, updo.eq_def, hupo.eq_def, opSto1.eq_def, List.take_succ_cons, List.take_zero, idf_Wd', idf_numI, cells_numI, numI_fold, Rt.av, Rt.cells, rtA, rtC]; rfl) fun fs12 hfs12 => ?_
      replace hfs12 : fs12.length = 4 := hfs12.trans rfl
      simp only [List.drop_succ_cons, List.drop_zero]
      refine DP.fcall (by_fc aD bD (by omega) (by omega)) rfl rfl rfl hb92 (by simp (disch := first|omega|(simp only[ln];omega)) [idf_Wd', idf_numI, cells_numI, numI_fold, Rt.av, Rt.cells, rtA, rtC]) (by simp (disch := first|omega|(simp only[ln];omega))) (by simp) ?_
      simp only [updo]
      refine DP.runFk 1 (by simp (disch := first|omega|(simp only[ln];omega)) [runDf.eq_def, runF1, runF2, stepF.eq_def, updo.eq_def, hupo.eq_def, opSto1.eq_def, List.take_succ_cons, List.take_zero, idf_Wd', idf_numI, cells_numI, numI_fold, Rt.av, Rt.cells, rtA, rtC]; rfl) fun fs13 hfs13 => ?_
      replace hfs13 : fs13.length = 1 := hfs13.trans rfl
      simp only [List.drop_succ_cons, List.drop_zero]
      refine DP.fcall (told_fc (j := 8) (a.up.v * b.up.v) (a.down.v * b.down.v) (aU.mul bU) bdd (by omega)) rfl rfl rfl hb110 (by simp (disch := first|omega|(simp only[ln];omega)) [idf_Wd', idf_numI, cells_numI, numI_fold, Rt.av, Rt.cells, rtA, rtC]) (by simp (disch := first|omega|(simp only[ln];omega))) (by simp) ?_
      simp only [updo]
      refine DP.runFk 2 (by simp (disch := first|omega|(simp only[ln];omega)) [runDf.eq_def, runF1, runF2, stepF.eq_def, updo.eq_def, hupo.eq_def, opSto1.eq_def, List.take_succ_cons, List.take_zero, idf_Wd', idf_numI, cells_numI, numI_fold, Rt.av, Rt.cells, rtA, rtC]; rfl) fun fs14 hfs14 => ?_
      replace hfs14 : fs14.length = 2 := hfs14.trans rfl
      simp only [List.drop_succ_cons, List.drop_zero]
      refine DQ.runF (m := 14) (by simp only [List.length_append, List.length_cons, List.length_nil, hfs11, hfs12, hfs13, hfs14]; omega) _ _ _ (by kernel_rfl) rfl (by simp (disch := first|omega|(simp only[ln];omega)) [runDf.eq_def, runF1, runF2, stepF.eq_def, updo.eq_def, hupo.eq_def, opSto1.eq_def, idf_Wd', idf_numI, cells_numI, numI_fold, Rt.av, Rt.cells, rtA, rtC]; rfl) ?_
      refine hK10 _ ?_
      refine AWP.ret ?_
      exact hK _ _ _ _ trivial ((Fin.mk (by simp [aRes, aResL, aRes1, idf_Wd', idf_numI, cells_numI, numI_fold, Rt.av, Rt.cells, rtA, rtC]; rfl)).cast (by unfold mulF; rw [hga, hgb]; rfl))

end Go.Proofs.Ytmaebeknmiomnaa

/- Walks: FnRatioSums, walked. -/
namespace Go.Proofs.Ytmaebeknmiomnaa
open Go Go.RowKit
set_option linter.unusedSimpArgs false
set_option linter.unusedVariables false
set_option maxRecDepth 100000
attribute [local simp] List.getElem?_cons_zero List.getElem?_cons_succ List.getElem?_toArray runOps stepOp.eq_def agd.eq_def dstOk.eq_def opVal.eq_def opNew.eq_def opSto.eq_def ev.eq_def cv.eq_def puts_some puts_none upd_ap lst.eq_def aBin.eq_def aUn.eq_def aBi_str aBi_isl aBi_osl aBi_nsl aBi_max aBi_min aBi_max3 aConv.eq_def aLd.eq_def aLoad.eq_def aField.eq_def aFld.eq_def aIdx_isl aIdx_osl aSlc_isl aSlc_osl aSlc_str aSlc_nsl bnd.eq_def evs_nil evs_cons aBuild.eq_def aFill splice.eq_def cells_agg cells_int cells_bool cells_str cells_nil cells_nsl cells_isl cells_osl cells_ptr cells_ip cells_fn cells_Wd one_int one_bool one_str one_nil one_nsl one_isl one_osl one_ptr one_ip one_fn one_Wd aSets hupd_eq hupd_ne wrap_i64s wrap_u64s wrap_u32s wrap_u8s wd_getD wd_set wd_len wd_replicate wd_one wd_fold fz_osl hupd_same aSix.eq_def aEqS.eq_def aEqB_bool aEqB_nsl aEqB_nil

theorem eqRt (p q : Rt) : eqW Try.prog 8 51 [.int .u64 p.up.a, .int .u64 p.up.b, .int .u64 p.up.c, .int .u64 p.up.d, .int .u64 p.down.a, .int .u64 p.down.b, .int .u64 p.down.c, .int .u64 p.down.d] [.int .u64 q.up.a, .int .u64 q.up.b, .int .u64 q.up.c, .int .u64 q.up.d, .int .u64 q.down.a, .int .u64 q.down.b, .int .u64 q.down.c, .int .u64 q.down.d] = some (decide (p = q)) := by
  have hs : Try.prog.stoodInHeld 51 = false := by kernel_rfl
  have hz : szOf Try.prog 26 = some 4 := by kernel_rfl
  have ha : aggT Try.prog 26 = some true := by kernel_rfl
  unfold eqW
  simp only [Try.underlying51, hs]
  simp [eqF, hz, ha, eqW4n]
  obtain ⟨⟨a1, a2, a3, a4⟩, ⟨b1, b2, b3, b4⟩⟩ := p
  obtain ⟨⟨d1, d2, d3, d4⟩, ⟨e1, e2, e3, e4⟩⟩ := q
  rw [Bool.eq_iff_iff]
  simp [Rt.mk.injEq, W4.mk.injEq, and_assoc]



end Go.Proofs.Ytmaebeknmiomnaa

/- Walks: spots and segments. -/
namespace Go.Proofs.Ytmaebeknmiomnaa
open Go Go.RowKit
set_option linter.unusedSimpArgs false
set_option linter.unusedVariables false
set_option maxRecDepth 100000
attribute [local simp] List.getElem?_cons_zero List.getElem?_cons_succ List.getElem?_toArray runOps stepOp.eq_def agd.eq_def dstOk.eq_def opVal.eq_def opNew.eq_def opSto.eq_def ev.eq_def cv.eq_def puts_some puts_none upd_ap lst.eq_def aBin.eq_def aUn.eq_def aBi_str aBi_isl aBi_osl aBi_nsl aBi_max aBi_min aBi_max3 aConv.eq_def aLd.eq_def aLoad.eq_def aField.eq_def aFld.eq_def aIdx_isl aIdx_osl aSlc_isl aSlc_osl aSlc_str aSlc_nsl bnd.eq_def evs_nil evs_cons aBuild.eq_def aFill splice.eq_def cells_agg cells_int cells_bool cells_str cells_nil cells_nsl cells_isl cells_osl cells_ptr cells_ip cells_fn cells_Wd one_int one_bool one_str one_nil one_nsl one_isl one_osl one_ptr one_ip one_fn one_Wd aSets hupd_eq hupd_ne wrap_i64s wrap_u64s wrap_u32s wrap_u8s wd_getD wd_set wd_len wd_replicate wd_one wd_fold fz_osl hupd_same aSix.eq_def aEqS.eq_def aEqB_bool aEqB_nsl aEqB_nil
attribute [local simp] szT2 byT2 agT2 unT2 zoT2 szT3 byT3 agT3 unT3 zoT3 szT26 byT26 agT26 flT26 fdT26_0 fdT26_1 fdT26_2 fdT26_3 zoT26 szT28 byT28 agT28 flT28 fdT28_0 fdT28_1 fdT28_2 zoT28 szT67 byT67 agT67 flT67 fdT67_0 fdT67_1 zoT67 szT69 byT69 agT69 flT69 fdT69_0 fdT69_1 zoT69 szT134 byT134 agT134 flT134 fdT134_0 fdT134_1 zoT134 szT136 byT136 agT136 flT136 fdT136_0 fdT136_1 zoT136

theorem wdZ_l {n : Int} (hf : fits n = true) : wdZ n = .agg (W4z n).l := by
  have e := wdT_l n
  unfold wdT at e
  rw [if_pos hf] at e; exact e
theorem wideOf4_fc (n : Int) (h1 : -9223372036854775808 ≤ n) (h2 : n ≤ 9223372036854775807) (hf : fits n = true) : FC Try.prog 20 [.int .i64 n] (.agg [.int .u64 (W4z n).a, .int .u64 (W4z n).b, .int .u64 (W4z n).c, .int .u64 (W4z n).d]) := by
  have h := wideOf_fc n h1 h2
  rw [wdZ_l hf] at h; exact h
end Go.Proofs.Ytmaebeknmiomnaa

/- Walks: where segments meet, by the program. -/
namespace Go.Proofs.Ytmaebeknmiomnaa
open Go Go.RowKit
set_option linter.unusedSimpArgs false
set_option linter.unusedVariables false
set_option maxRecDepth 100000
attribute [local simp] List.getElem?_cons_zero List.getElem?_cons_succ List.getElem?_toArray runOps stepOp.eq_def agd.eq_def dstOk.eq_def opVal.eq_def opNew.eq_def opSto.eq_def ev.eq_def cv.eq_def puts_some puts_none upd_ap lst.eq_def aBin.eq_def aUn.eq_def aBi_str aBi_isl aBi_osl aBi_nsl aBi_max aBi_min aBi_max3 aConv.eq_def aLd.eq_def aLoad.eq_def aField.eq_def aFld.eq_def aIdx_isl aIdx_osl aSlc_isl aSlc_osl aSlc_str aSlc_nsl bnd.eq_def evs_nil evs_cons aBuild.eq_def aFill splice.eq_def cells_agg cells_int cells_bool cells_str cells_nil cells_nsl cells_isl cells_osl cells_ptr cells_ip cells_fn cells_Wd one_int one_bool one_str one_nil one_nsl one_isl one_osl one_ptr one_ip one_fn one_Wd aSets hupd_eq hupd_ne wrap_i64s wrap_u64s wrap_u32s wrap_u8s wd_getD wd_set wd_len wd_replicate wd_one wd_fold fz_osl hupd_same aSix.eq_def aEqS.eq_def aEqB_bool aEqB_nsl aEqB_nil
attribute [local simp] szT2 byT2 agT2 unT2 zoT2 szT4 byT4 agT4 unT4 zoT4 szT24 byT24 agT24 unT24 zoT24 szT26 byT26 agT26 flT26 fdT26_0 fdT26_1 fdT26_2 fdT26_3 zoT26 szT28 byT28 agT28 flT28 fdT28_0 fdT28_1 fdT28_2 zoT28 szT117 byT117 agT117 elT117 unT117 zoT117 szT119 byT119 agT119 flT119 fdT119_0 fdT119_1 zoT119 szT121 byT121 agT121 flT121 fdT121_0 fdT121_1 fdT121_2 zoT121 szT200 byT200 agT200 elT200 unT200 zoT200

theorem max_sm2 (x y w : Int) : decide (80 < (if (if bitLen x.natAbs < bitLen y.natAbs then (bitLen y.natAbs : Int) else (bitLen x.natAbs : Int)) < (bitLen w.natAbs : Int) then (bitLen w.natAbs : Int) else if bitLen x.natAbs < bitLen y.natAbs then (bitLen y.natAbs : Int) else (bitLen x.natAbs : Int))) = !sm x y w := by
  rw [← max_sm]
  generalize (if (if bitLen x.natAbs < bitLen y.natAbs then (bitLen y.natAbs : Int) else (bitLen x.natAbs : Int)) < (bitLen w.natAbs : Int) then (bitLen w.natAbs : Int) else if bitLen x.natAbs < bitLen y.natAbs then (bitLen y.natAbs : Int) else (bitLen x.natAbs : Int)) = m
  rw [Bool.eq_iff_iff]; simp
theorem gcd3_x (x y w : Int) : gcd3 x y w ∣ x := Int.dvd_trans (by unfold gcd3; exact Int.ofNat_dvd.2 (Nat.gcd_dvd_left _ _)) (Int.gcd_dvd_left (a := x) (b := y))
theorem gcd3_y (x y w : Int) : gcd3 x y w ∣ y := Int.dvd_trans (by unfold gcd3; exact Int.ofNat_dvd.2 (Nat.gcd_dvd_left _ _)) (Int.gcd_dvd_right (a := x) (b := y))
theorem gcd3_w (x y w : Int) : gcd3 x y w ∣ w := by unfold gcd3; exact Int.dvd_natAbs.1 (Int.ofNat_dvd.2 (Nat.gcd_dvd_right _ _))
theorem div_nrm {x y w z g : Int} (hg : gcd3 x y w = g) (hz : g ∣ z) : z / (if w < 0 then -g else g) = nrm w z / g := by
  unfold nrm; split
  · rw [Int.ediv_neg, Int.neg_ediv_of_dvd hz]
  · rfl

set_option maxHeartbeats 4000000 in
theorem spotPoint_fc {j : Nat} (x y w : Int) (bx : Bg j x) (bY : Bg j y) (bw : Bg j w) (hj : j ≤ 16777216) : FC Try.prog 93 [spA x y w] (.tup [.agg [.int .u64 (mkP x y w).x.a, .int .u64 (mkP x y w).x.b, .int .u64 (mkP x y w).x.c, .int .u64 (mkP x y w).x.d, .int .u64 (mkP x y w).y.a, .int .u64 (mkP x y w).y.b, .int .u64 (mkP x y w).y.c, .int .u64 (mkP x y w).y.d, .int .u64 (mkP x y w).w.a, .int .u64 (mkP x y w).w.b, .int .u64 (mkP x y w).w.c, .int .u64 (mkP x y w).w.d], .bool (mkB x y w)]) := by
  obtain ⟨cs, hsf, hse⟩ : ∃ c : Int, FC Try.prog 85 [numI w] (.int .i64 c) ∧ (c == 0) = decide (w = 0) := ⟨_, sign_fc w, by
    by_cases h : w = 0
    · subst h; rfl
    · have : (if w < 0 then (-1 : Int) else if w > 0 then 1 else 0) ≠ 0 := by split <;> (try split) <;> omega
      rw [beq_eq_false_iff_ne.2 this]; simp [h]⟩
  refine FC.body Try.func93 rfl (by simp [idfL, idf, idfLL_iff, idf_Wd', idf_numI, cells_numI, numI_fold, spA, spC, numC]) (by simp [idfL, idf, idfLL_iff, idf_Wd', idf_numI, cells_numI, numI_fold, spA, spC, numC]) 80 rfl fun nx K hK => ?_
  refine AWP.seqk fun K1 hK1 => ?_
  refine AWP.region (AOPS.all (by simp (disch := first|omega|(simp only[ln];omega)) [idf_Wd', idf_numI, cells_numI, numI_fold, spA, spC, numC]; rfl) ?_)
  refine hK1 _ ?_
  refine AWP.seqk fun K2 hK2 => ?_
  refine AWP.seqk fun K3 hK3 => ?_
  refine AWP.region ?_
  refine AOPS.runk 2 (by simp (disch := first|omega|(simp only[ln];omega)) [List.take_succ_cons, List.take_zero, idf_Wd', idf_numI, cells_numI, numI_fold, spA, spC, numC]; rfl) ?_
  simp only [List.drop_succ_cons, List.drop_zero]
  refine AOPS.fcall (hsf) rfl rfl rfl hb85 (by simp (disch := first|omega|(simp only[ln];omega)) [idf_Wd', idf_numI, cells_numI, numI_fold, spA, spC, numC]) (by simp (disch := first|omega|(simp only[ln];omega))) (by simp) ?_
  simp only [puts_some, updo]
  refine AOPS.all (by simp (disch := first|omega|(simp only[ln];omega)) [idf_Wd', idf_numI, cells_numI, numI_fold, spA, spC, numC]; rfl) ?_
  refine hK3 _ ?_
  refine cond_ok (decide (w = 0)) (by simp (disch := first|omega|(simp only[ln];omega)) [hse]) (fun h15 => ?_) (fun h15 => ?_)
  · try simp only [decide_eq_true_eq, decide_eq_false_iff_not] at h15
    refine AWP.seqk fun K4 hK4 => ?_
    refine AWP.region (AOPS.all (by simp (disch := first|omega|(simp only[ln];omega)) [idf_Wd', idf_numI, cells_numI, numI_fold, spA, spC, numC]; rfl) ?_)
    refine hK4 _ ?_
    refine AWP.ret ?_
    exact hK _ _ _ _ trivial ((Fin.mk (by simp [aRes, aResL, aRes1, idf_Wd', idf_numI, cells_numI, numI_fold, spA, spC, numC]; rfl)).cast (by unfold mkP mkB; rw [if_pos h15, if_pos h15]; rfl))
  · try simp only [decide_eq_true_eq, decide_eq_false_iff_not] at h15
    have hw : w ≠ 0 := h15
    have hgp := gcd3_pos (x := x) (y := y) hw
    have hgx := gcd3_x x y w
    have hgy := gcd3_y x y w
    have hgw := gcd3_w x y w
    have eP : mkP x y w = pt3 (nrm w x / gcd3 x y w) (nrm w y / gcd3 x y w) (nrm w w / gcd3 x y w) := by unfold mkP; rw [if_neg hw]
    have eB : mkB x y w = sm (nrm w x / gcd3 x y w) (nrm w y / gcd3 x y w) (nrm w w / gcd3 x y w) := by unfold mkB; rw [if_neg hw]
    have bG : Bg j (gcd3 x y w) := by
      have b1 : Bg j ((Int.gcd x y : Nat) : Int) := Bg.gcd bx.abs bY.abs
      exact Bg.gcd b1 bw.abs
    have hg2 : FC Try.prog 87 [.isl [numC x, numC y, numC w]] (numI (gcd3 x y w)) := by
      have h := gcd_fc (j := j) [x, y, w] (by intro z hz; simp only [List.mem_cons, List.not_mem_nil, or_false] at hz; rcases hz with rfl | rfl | rfl <;> assumption) (by omega) (by simp)
      rw [gcdL_three] at h; exact h
    generalize hgg : gcd3 x y w = g at *
    have bX := (bx.nrm (w := w)).div hgp
    have bYY := (bY.nrm (w := w)).div hgp
    have bW := (bw.nrm (w := w)).div hgp
    refine AWP.skip ?_
    refine hK2 _ ?_
    refine AWP.seqk fun K5 hK5 => ?_
    refine AWP.region ?_
    refine AOPS.runk 7 (by simp (disch := first|omega|(simp only[ln];omega)) [List.take_succ_cons, List.take_zero, idf_Wd', idf_numI, cells_numI, numI_fold, spA, spC, numC]; rfl) ?_
    simp only [List.drop_succ_cons, List.drop_zero]
    refine AOPS.frz1 23 (nx + 1 + 1) 2 [numC x, numC y, numC w] (.isl [numC x, numC y, numC w]) (by simp [numC]) (by simp [fz, numC]) ?_
    refine AOPS.fcall (hg2) rfl rfl rfl hb87 (by simp (disch := first|omega|(simp only[ln];omega)) [idf_Wd', idf_numI, cells_numI, numI_fold, spA, spC, numC]) (by simp (disch := first|omega|(simp only[ln];omega))) (by simp) ?_
    simp only [puts_some, updo]
    refine AOPS.all (by simp (disch := first|omega|(simp only[ln];omega)) [idf_Wd', idf_numI, cells_numI, numI_fold, spA, spC, numC]; rfl) ?_
    refine hK5 _ ?_
    refine AWP.seqk fun K6 hK6 => ?_
    have J6 : ∀ s : St, (∃ D : Int, D = (if w < 0 then -g else g) ∧ s.env 1 = .ptr nx 0 0 ∧ s.env 2 = .ptr (nx + 1) 0 0 ∧ s.env 4 = .ptr (nx + 1 + 1 + 1) 0 0 ∧ s.env 3 = .bool false ∧ s.heap nx = some (6, [[.bool (decide (x < 0)), Wd .u64 (mag x), .bool (decide (y < 0)), Wd .u64 (mag y), .bool (decide (w < 0)), Wd .u64 (mag w)]]) ∧ s.heap (nx + 1) = some (12, [[.int .u64 0, .int .u64 0, .int .u64 0, .int .u64 0, .int .u64 0, .int .u64 0, .int .u64 0, .int .u64 0, .int .u64 0, .int .u64 0, .int .u64 0, .int .u64 0]]) ∧ s.heap (nx + 1 + 1 + 1) = some (2, [[.bool (decide (D < 0)), Wd .u64 (mag (D))]]) ∧ nx + 1 + 1 + 1 < s.nx ∧ s.nt = 80) → K6 s := by
      rintro ⟨e, H, mm, nt⟩ ⟨D, hD, h1, h2, h4, h3, hA, hB, hC, hm, rfl⟩
      simp only [] at h1 h2 h4 h3 hA hB hC hm
      have dX := div_nrm hgg hgx
      have dY := div_nrm hgg hgy
      have dW := div_nrm hgg hgw
      rw [← hD] at dX dY dW
      have bD : Bg j D := by rw [hD]; split; exact bG.neg; exact bG
      have hDn : D ≠ 0 := by rw [hD]; split <;> omega
      have ox := over_fc x D hDn bx bD hj
      have oy := over_fc y D hDn bY bD hj
      have ow := over_fc w D hDn bw bD hj
      rw [dX] at ox
      rw [dY] at oy
      rw [dW] at ow
      generalize nrm w x / g = X at *
      generalize nrm w y / g = Y at *
      generalize nrm w w / g = W at *
      have hms := max_sm2 X Y W
      have w1 := wide_fc bX (by omega)
      have w2 := wide_fc bYY (by omega)
      have w3 := wide_fc bW (by omega)
      rw [wdT_l] at w1 w2 w3
      unfold W4.l at w1 w2 w3
      clear dX dY dW
      refine hK6 _ ?_
      refine AWP.seqk fun K7 hK7 => ?_
      refine AWP.region ?_
      refine AOPS.runk 3 (by simp (disch := first|omega|(simp only[ln];omega)) [List.take_succ_cons, List.take_zero, idf_Wd', idf_numI, cells_numI, numI_fold, spA, spC, numC, h1, h4, hA, hC]; rfl) ?_
      simp only [List.drop_succ_cons, List.drop_zero]
      refine AOPS.fcall (ox) rfl rfl rfl hb180 (by simp (disch := first|omega|(simp only[ln];omega)) [idf_Wd', h1, h4, hA, hC, idf_numI, cells_numI, numI_fold, spA, spC, numC]) (by simp (disch := first|omega|(simp only[ln];omega)) [h1, h4, hA, hC]) (by simp) ?_
      simp only [puts_some, updo]
      refine AOPS.all (by simp (disch := first|omega|(simp only[ln];omega)) [idf_Wd', idf_numI, cells_numI, numI_fold, spA, spC, numC, h1, h4, hA, hC]; rfl) ?_
      refine hK7 _ ?_
      refine AWP.seqk fun K8 hK8 => ?_
      refine AWP.region ?_
      refine AOPS.runk 3 (by simp (disch := first|omega|(simp only[ln];omega)) [List.take_succ_cons, List.take_zero, idf_Wd', idf_numI, cells_numI, numI_fold, spA, spC, numC, h1, h4, hA, hC]; rfl) ?_
      simp only [List.drop_succ_cons, List.drop_zero]
      refine AOPS.fcall (oy) rfl rfl rfl hb180 (by simp (disch := first|omega|(simp only[ln];omega)) [idf_Wd', h1, h4, hA, hC, idf_numI, cells_numI, numI_fold, spA, spC, numC]) (by simp (disch := first|omega|(simp only[ln];omega)) [h1, h4, hA, hC]) (by simp) ?_
      simp only [puts_some, updo]
      refine AOPS.all (by simp (disch := first|omega|(simp only[ln];omega)) [idf_Wd', idf_numI, cells_numI, numI_fold, spA, spC, numC, h1, h4, hA, hC]; rfl) ?_
      refine hK8 _ ?_
      refine AWP.seqk fun K9 hK9 => ?_
      refine AWP.region ?_
      refine AOPS.runk 3 (by simp (disch := first|omega|(simp only[ln];omega)) [List.take_succ_cons, List.take_zero, idf_Wd', idf_numI, cells_numI, numI_fold, spA, spC, numC, h1, h4, hA, hC]; rfl) ?_
      simp only [List.drop_succ_cons, List.drop_zero]
      refine AOPS.fcall (ow) rfl rfl rfl hb180 (by simp (disch := first|omega|(simp only[ln];omega)) [idf_Wd', h1, h4, hA, hC, idf_numI, cells_numI, numI_fold, spA, spC, numC]) (by simp (disch := first|omega|(simp only[ln];omega)) [h1, h4, hA, hC]) (by simp) ?_
      simp only [puts_some, updo]
      refine AOPS.all (by simp (disch := first|omega|(simp only[ln];omega)) [idf_Wd', idf_numI, cells_numI, numI_fold, spA, spC, numC, h1, h4, hA, hC]; rfl) ?_
      refine hK9 _ ?_
      refine AWP.seqk fun K10 hK10 => ?_
      refine AWP.seqk fun K11 hK11 => ?_
      refine AWP.draw 8 Try.checked.mixed (by kernel_rfl) (by simp) ?_
      simp only [List.take_succ_cons, List.take_zero, List.drop_succ_cons, List.drop_zero]
      refine DP.runFk 1 (by simp (disch := first|omega|(simp only[ln];omega)) [runDf.eq_def, runF1, runF2, stepF.eq_def, updo.eq_def, hupo.eq_def, opSto1.eq_def, List.take_succ_cons, List.take_zero, idf_Wd', idf_numI, cells_numI, numI_fold, spA, spC, numC, hms]; rfl) fun fs12 hfs12 => ?_
      replace hfs12 : fs12.length = 1 := hfs12.trans rfl
      simp only [List.drop_succ_cons, List.drop_zero]
      refine DP.fcall (size_fc bX (by omega)) rfl rfl rfl hb86 (by simp (disch := first|omega|(simp only[ln];omega)) [idf_Wd', hms, idf_numI, cells_numI, numI_fold, spA, spC, numC]) (by simp (disch := first|omega|(simp only[ln];omega)) [hms]) (by simp) ?_
      simp only [updo]
      refine DP.runFk 1 (by simp (disch := first|omega|(simp only[ln];omega)) [runDf.eq_def, runF1, runF2, stepF.eq_def, updo.eq_def, hupo.eq_def, opSto1.eq_def, List.take_succ_cons, List.take_zero, idf_Wd', idf_numI, cells_numI, numI_fold, spA, spC, numC, hms]; rfl) fun fs13 hfs13 => ?_
      replace hfs13 : fs13.length = 1 := hfs13.trans rfl
      simp only [List.drop_succ_cons, List.drop_zero]
      refine DP.fcall (size_fc bYY (by omega)) rfl rfl rfl hb86 (by simp (disch := first|omega|(simp only[ln];omega)) [idf_Wd', hms, idf_numI, cells_numI, numI_fold, spA, spC, numC]) (by simp (disch := first|omega|(simp only[ln];omega)) [hms]) (by simp) ?_
      simp only [updo]
      refine DP.runFk 1 (by simp (disch := first|omega|(simp only[ln];omega)) [runDf.eq_def, runF1, runF2, stepF.eq_def, updo.eq_def, hupo.eq_def, opSto1.eq_def, List.take_succ_cons, List.take_zero, idf_Wd', idf_numI, cells_numI, numI_fold, spA, spC, numC, hms]; rfl) fun fs14 hfs14 => ?_
      replace hfs14 : fs14.length = 1 := hfs14.trans rfl
      simp only [List.drop_succ_cons, List.drop_zero]
      refine DP.fcall (size_fc bW (by omega)) rfl rfl rfl hb86 (by simp (disch := first|omega|(simp only[ln];omega)) [idf_Wd', hms, idf_numI, cells_numI, numI_fold, spA, spC, numC]) (by simp (disch := first|omega|(simp only[ln];omega)) [hms]) (by simp) ?_
      simp only [updo]
      refine DP.runFk 2 (by simp (disch := first|omega|(simp only[ln];omega)) [runDf.eq_def, runF1, runF2, stepF.eq_def, updo.eq_def, hupo.eq_def, opSto1.eq_def, List.take_succ_cons, List.take_zero, idf_Wd', idf_numI, cells_numI, numI_fold, spA, spC, numC, hms]; rfl) fun fs15 hfs15 => ?_
      replace hfs15 : fs15.length = 2 := hfs15.trans rfl
      simp only [List.drop_succ_cons, List.drop_zero]
      refine DQ.runF (m := 8) (by simp only [List.length_append, List.length_cons, List.length_nil, hfs12, hfs13, hfs14, hfs15]; omega) _ _ _ (by kernel_rfl) rfl (by simp (disch := first|omega|(simp only[ln];omega)) [runDf.eq_def, runF1, runF2, stepF.eq_def, updo.eq_def, hupo.eq_def, opSto1.eq_def, idf_Wd', idf_numI, cells_numI, numI_fold, spA, spC, numC, hms]; rfl) ?_
      refine hK11 _ ?_
      refine cond_ok (!sm X Y W) (by simp (disch := first|omega|(simp only[ln];omega))) (fun h58 => ?_) (fun h58 => ?_)
      · try simp only [decide_eq_true_eq, decide_eq_false_iff_not] at h58
        have hb : sm X Y W = false := by simpa using h58
        refine AWP.seqk fun K16 hK16 => ?_
        refine AWP.region (AOPS.all (by simp (disch := first|omega|(simp only[ln];omega)) [idf_Wd', idf_numI, cells_numI, numI_fold, spA, spC, numC, h2, hB]; rfl) ?_)
        refine hK16 _ ?_
        refine AWP.ret ?_
        exact hK _ _ _ _ trivial ((Fin.mk (by simp (disch := omega) [aRes, aResL, aRes1, h2, idf_Wd', idf_numI, cells_numI, numI_fold, spA, spC, numC]; rfl)).cast (by rw [eP, eB, pt3, hb]; rfl))
      · try simp only [decide_eq_true_eq, decide_eq_false_iff_not] at h58
        have hb : sm X Y W = true := by simpa using h58
        refine AWP.skip ?_
        refine hK10 _ ?_
        refine AWP.seqk fun K17 hK17 => ?_
        refine AWP.region (AOPS.all (by simp (disch := first|omega|(simp only[ln];omega)) [idf_Wd', idf_numI, cells_numI, numI_fold, spA, spC, numC]; rfl) ?_)
        refine hK17 _ ?_
        refine AWP.seqk fun K18 hK18 => ?_
        refine AWP.region ?_
        refine AOPS.runk 1 (by simp (disch := first|omega|(simp only[ln];omega)) [List.take_succ_cons, List.take_zero, idf_Wd', idf_numI, cells_numI, numI_fold, spA, spC, numC]; rfl) ?_
        simp only [List.drop_succ_cons, List.drop_zero]
        refine AOPS.fcall (w1) rfl rfl rfl hb90 (by simp (disch := first|omega|(simp only[ln];omega)) [idf_Wd', idf_numI, cells_numI, numI_fold, spA, spC, numC]) (by simp (disch := first|omega|(simp only[ln];omega))) (by simp) ?_
        simp only [puts_some, updo]
        refine AOPS.all (by simp (disch := first|omega|(simp only[ln];omega)) [idf_Wd', idf_numI, cells_numI, numI_fold, spA, spC, numC]; rfl) ?_
        refine hK18 _ ?_
        refine AWP.seqk fun K19 hK19 => ?_
        refine AWP.region ?_
        refine AOPS.runk 1 (by simp (disch := first|omega|(simp only[ln];omega)) [List.take_succ_cons, List.take_zero, idf_Wd', idf_numI, cells_numI, numI_fold, spA, spC, numC]; rfl) ?_
        simp only [List.drop_succ_cons, List.drop_zero]
        refine AOPS.fcall (w2) rfl rfl rfl hb90 (by simp (disch := first|omega|(simp only[ln];omega)) [idf_Wd', idf_numI, cells_numI, numI_fold, spA, spC, numC]) (by simp (disch := first|omega|(simp only[ln];omega))) (by simp) ?_
        simp only [puts_some, updo]
        refine AOPS.all (by simp (disch := first|omega|(simp only[ln];omega)) [idf_Wd', idf_numI, cells_numI, numI_fold, spA, spC, numC]; rfl) ?_
        refine hK19 _ ?_
        refine AWP.seqk fun K20 hK20 => ?_
        refine AWP.region ?_
        refine AOPS.runk 1 (by simp (disch := first|omega|(simp only[ln];omega)) [List.take_succ_cons, List.take_zero, idf_Wd', idf_numI, cells_numI, numI_fold, spA, spC, numC]; rfl) ?_
        simp only [List.drop_succ_cons, List.drop_zero]
        refine AOPS.fcall (w3) rfl rfl rfl hb90 (by simp (disch := first|omega|(simp only[ln];omega)) [idf_Wd', idf_numI, cells_numI, numI_fold, spA, spC, numC]) (by simp (disch := first|omega|(simp only[ln];omega))) (by simp) ?_
        simp only [puts_some, updo]
        refine AOPS.all (by simp (disch := first|omega|(simp only[ln];omega)) [idf_Wd', idf_numI, cells_numI, numI_fold, spA, spC, numC]; rfl) ?_
        refine hK20 _ ?_
        refine AWP.seqk fun K21 hK21 => ?_
        refine AWP.region (AOPS.all (by simp (disch := first|omega|(simp only[ln];omega)) [idf_Wd', idf_numI, cells_numI, numI_fold, spA, spC, numC, h2, hB]; rfl) ?_)
        refine hK21 _ ?_
        refine AWP.ret ?_
        exact hK _ _ _ _ trivial ((Fin.mk (by simp (disch := omega) [aRes, aResL, aRes1, h2, idf_Wd', idf_numI, cells_numI, numI_fold, spA, spC, numC]; rfl)).cast (by rw [eP, eB, pt3, if_pos hb, hb]))
    refine AWP.seqk fun K22 hK22 => ?_
    refine AWP.region (AOPS.all (by simp (disch := first|omega|(simp only[ln];omega)) [idf_Wd', idf_numI, cells_numI, numI_fold, spA, spC, numC]; rfl) ?_)
    refine hK22 _ ?_
    refine cond_ok (decide (w < 0)) (by simp (disch := first|omega|(simp only[ln];omega))) (fun h27 => ?_) (fun h27 => ?_)
    · try simp only [decide_eq_true_eq, decide_eq_false_iff_not] at h27
      refine AWP.region ?_
      refine AOPS.runk 1 (by simp (disch := first|omega|(simp only[ln];omega)) [List.take_succ_cons, List.take_zero, idf_Wd', idf_numI, cells_numI, numI_fold, spA, spC, numC]; rfl) ?_
      simp only [List.drop_succ_cons, List.drop_zero]
      refine AOPS.fcall (minus_fc bG (by omega)) rfl rfl rfl hb179 (by simp (disch := first|omega|(simp only[ln];omega)) [idf_Wd', idf_numI, cells_numI, numI_fold, spA, spC, numC]) (by simp (disch := first|omega|(simp only[ln];omega))) (by simp) ?_
      simp only [puts_some, updo]
      refine AOPS.all (by simp (disch := first|omega|(simp only[ln];omega)) [idf_Wd', idf_numI, cells_numI, numI_fold, spA, spC, numC]; rfl) ?_
      refine J6 _ ?_
      exact ⟨-g, by simp [h27], by simp, by simp, by simp, by simp, by simp (disch := omega), by simp (disch := omega), by simp (disch := omega), by simp, rfl⟩
    · try simp only [decide_eq_true_eq, decide_eq_false_iff_not] at h27
      refine AWP.skip ?_
      refine J6 _ ?_
      exact ⟨g, by simp [h27], by simp, by simp, by simp, by simp, by simp (disch := omega), by simp (disch := omega), by simp (disch := omega), by simp, rfl⟩

end Go.Proofs.Ytmaebeknmiomnaa

/- Walks: FnMiddles, walked. -/
namespace Go.Proofs.Ytmaebeknmiomnaa
open Go Go.RowKit
set_option linter.unusedSimpArgs false
set_option linter.unusedVariables false
set_option maxRecDepth 100000
attribute [local simp] List.getElem?_cons_zero List.getElem?_cons_succ List.getElem?_toArray runOps stepOp.eq_def agd.eq_def dstOk.eq_def opVal.eq_def opNew.eq_def opSto.eq_def ev.eq_def cv.eq_def puts_some puts_none upd_ap lst.eq_def aBin.eq_def aUn.eq_def aBi_str aBi_isl aBi_osl aBi_nsl aBi_max aBi_min aBi_max3 aConv.eq_def aLd.eq_def aLoad.eq_def aField.eq_def aFld.eq_def aIdx_isl aIdx_osl aSlc_isl aSlc_osl aSlc_str aSlc_nsl bnd.eq_def evs_nil evs_cons aBuild.eq_def aFill splice.eq_def cells_agg cells_int cells_bool cells_str cells_nil cells_nsl cells_isl cells_osl cells_ptr cells_ip cells_fn cells_Wd one_int one_bool one_str one_nil one_nsl one_isl one_osl one_ptr one_ip one_fn one_Wd aSets hupd_eq hupd_ne wrap_i64s wrap_u64s wrap_u32s wrap_u8s wd_getD wd_set wd_len wd_replicate wd_one wd_fold fz_osl hupd_same aSix.eq_def aEqS.eq_def aEqB_bool aEqB_nsl aEqB_nil
attribute [local simp] szT4 byT4 agT4 unT4 zoT4 szT26 byT26 agT26 flT26 fdT26_0 fdT26_1 fdT26_2 fdT26_3 zoT26 szT28 byT28 agT28 flT28 fdT28_0 fdT28_1 fdT28_2 zoT28 szT51 byT51 agT51 flT51 fdT51_0 fdT51_1 zoT51 szT80 byT80 agT80 elT80 unT80 zoT80 szT117 byT117 agT117 elT117 unT117 zoT117 szT119 byT119 agT119 flT119 fdT119_0 fdT119_1 zoT119 szT121 byT121 agT121 flT121 fdT121_0 fdT121_1 fdT121_2 zoT121 szT143 byT143 agT143 flT143 fdT143_0 fdT143_1 zoT143

set_option maxHeartbeats 4000000 in
theorem middleI_fc (p q : Pt) (hp : p.ok) (hq : q.ok) : FC Try.prog 29 [p.av, q.av] (.tup [.agg [.int .u64 (midP p q).x.a, .int .u64 (midP p q).x.b, .int .u64 (midP p q).x.c, .int .u64 (midP p q).x.d, .int .u64 (midP p q).y.a, .int .u64 (midP p q).y.b, .int .u64 (midP p q).y.c, .int .u64 (midP p q).y.d, .int .u64 (midP p q).w.a, .int .u64 (midP p q).w.b, .int .u64 (midP p q).w.c, .int .u64 (midP p q).w.d], .bool (midB p q)]) := by
  have ha := arePoints_fc [p, q] (by simp [hp, hq]) (by simp)
  have e : [p, q].all Pt.good = (p.good && q.good) := by simp
  rw [e] at ha
  have pX := W4.bg hp.1
  have pY := W4.bg hp.2.1
  have pW := W4.bg hp.2.2
  have qX := W4.bg hq.1
  have qY := W4.bg hq.2.1
  have qW := W4.bg hq.2.2
  refine FC.body Try.func29 rfl (by simp [idfL, idf, Pt.av, Pt.cells]) (by simp [idfL, idf, idfLL_iff, idf_Wd', idf_numS, cells_numS, numS_fold, idf_numI, cells_numI, numI_fold, Pt.av, Pt.cells, spA, spC, numC]) 51 rfl fun nx K hK => ?_
  refine AWP.seqk fun K1 hK1 => ?_
  refine AWP.region (AOPS.all (by simp (disch := first|omega|(simp only[ln];omega)) [idf_Wd', idf_numS, cells_numS, numS_fold, idf_numI, cells_numI, numI_fold, Pt.av, Pt.cells, spA, spC, numC]; rfl) ?_)
  refine hK1 _ ?_
  refine AWP.seqk fun K2 hK2 => ?_
  refine AWP.seqk fun K3 hK3 => ?_
  refine AWP.region ?_
  refine AOPS.runk 3 (by simp (disch := first|omega|(simp only[ln];omega)) [List.take_succ_cons, List.take_zero, idf_Wd', idf_numS, cells_numS, numS_fold, idf_numI, cells_numI, numI_fold, Pt.av, Pt.cells, spA, spC, numC]; rfl) ?_
  simp only [List.drop_succ_cons, List.drop_zero]
  refine AOPS.frz1 10 (nx + 1 + 1 + 1) 12 [p.cells, q.cells] (.isl [p.cells, q.cells]) (by simp [Pt.cells]) (by simp [fz]) ?_
  refine AOPS.fcall (ha) rfl rfl rfl hb79 (by simp (disch := first|omega|(simp only[ln];omega)) [idf_Wd', idf_numS, cells_numS, numS_fold, idf_numI, cells_numI, numI_fold, Pt.av, Pt.cells, spA, spC, numC]) (by simp (disch := first|omega|(simp only[ln];omega))) (by simp) ?_
  simp only [puts_some, updo]
  refine AOPS.all (by simp (disch := first|omega|(simp only[ln];omega)) [idf_Wd', idf_numS, cells_numS, numS_fold, idf_numI, cells_numI, numI_fold, Pt.av, Pt.cells, spA, spC, numC]; rfl) ?_
  refine hK3 _ ?_
  refine cond_ok (!(p.good && q.good)) (by simp (disch := first|omega|(simp only[ln];omega))) (fun h12 => ?_) (fun h12 => ?_)
  · try simp only [decide_eq_true_eq, decide_eq_false_iff_not] at h12
    have hg : (p.good && q.good) = false := by revert h12; cases p.good <;> cases q.good <;> simp
    refine AWP.seqk fun K4 hK4 => ?_
    refine AWP.region (AOPS.all (by simp (disch := first|omega|(simp only[ln];omega)) [idf_Wd', idf_numS, cells_numS, numS_fold, idf_numI, cells_numI, numI_fold, Pt.av, Pt.cells, spA, spC, numC]; rfl) ?_)
    refine hK4 _ ?_
    refine AWP.ret ?_
    exact hK _ _ _ _ trivial ((Fin.mk (by simp [aRes, aResL, aRes1, idf_Wd', idf_numS, cells_numS, numS_fold, idf_numI, cells_numI, numI_fold, Pt.av, Pt.cells, spA, spC, numC]; rfl)).cast (by unfold midP midB; rw [hg]; rfl))
  · try simp only [decide_eq_true_eq, decide_eq_false_iff_not] at h12
    have hg : (p.good && q.good) = true := by revert h12; cases p.good <;> cases q.good <;> simp
    refine AWP.skip ?_
    refine hK2 _ ?_
    refine AWP.seqk fun K5 hK5 => ?_
    refine AWP.old fun hold => ?_
    refine AWP.draw 6 Try.checked.mixed (by kernel_rfl) (by simp) ?_
    simp only [List.take_succ_cons, List.take_zero, List.drop_succ_cons, List.drop_zero]
    refine DP.runFk 1 (by simp (disch := first|omega|(simp only[ln];omega)) [runDf.eq_def, runF1, runF2, stepF.eq_def, updo.eq_def, hupo.eq_def, opSto1.eq_def, List.take_succ_cons, List.take_zero, idf_Wd', idf_numS, cells_numS, numS_fold, idf_numI, cells_numI, numI_fold, Pt.av, Pt.cells, spA, spC, numC]; rfl) fun fs6 hfs6 => ?_
    replace hfs6 : fs6.length = 1 := hfs6.trans rfl
    simp only [List.drop_succ_cons, List.drop_zero]
    refine DP.fcall (spot_fc p hp) rfl rfl rfl hb84 (by simp (disch := first|omega|(simp only[ln];omega)) [idf_Wd', idf_numS, cells_numS, numS_fold, idf_numI, cells_numI, numI_fold, Pt.av, Pt.cells, spA, spC, numC]) (by simp (disch := first|omega|(simp only[ln];omega))) (by simp) ?_
    simp only [updo]
    refine DP.runF1q (by simp (disch := first|omega|(simp only[ln];omega)) [runDf.eq_def, runF1, runF2, stepF.eq_def, updo.eq_def, hupo.eq_def, opSto1.eq_def, idf_Wd', idf_numS, cells_numS, numS_fold, idf_numI, cells_numI, numI_fold, Pt.av, Pt.cells, spA, spC, numC]; rfl) fun fq7 hfq7 => ?_
    simp [qids, asksB, Op.operands, topId] at hfq7
    simp only [updo]
    refine DP.fcall (spot_fc q hq) rfl rfl rfl hb84 (by simp (disch := first|omega|(simp only[ln];omega)) [idf_Wd', idf_numS, cells_numS, numS_fold, idf_numI, cells_numI, numI_fold, Pt.av, Pt.cells, spA, spC, numC]) (by simp (disch := first|omega|(simp only[ln];omega))) (by simp) ?_
    simp only [updo]
    refine DP.runFk 2 (by simp (disch := first|omega|(simp only[ln];omega)) [runDf.eq_def, runF1, runF2, stepF.eq_def, updo.eq_def, hupo.eq_def, opSto1.eq_def, List.take_succ_cons, List.take_zero, idf_Wd', idf_numS, cells_numS, numS_fold, idf_numI, cells_numI, numI_fold, Pt.av, Pt.cells, spA, spC, numC]; rfl) fun fs8 hfs8 => ?_
    replace hfs8 : fs8.length = 2 := hfs8.trans rfl
    simp only [List.drop_succ_cons, List.drop_zero]
    refine DQ.sto1 (m := 6) [2] _ (by simp (disch := first|omega|(simp only[ln];omega)) [runDf.eq_def, runF1, runF2, stepF.eq_def, updo.eq_def, hupo.eq_def, opSto1.eq_def, idf_Wd', idf_numS, cells_numS, numS_fold, idf_numI, cells_numI, numI_fold, Pt.av, Pt.cells, spA, spC, numC]; rfl) rfl (by simp only [List.length_append, List.length_cons, List.length_nil, hfs6, hfs8]; omega) (by kernel_rfl) (by intro k f hk hex; simp only [List.mem_cons, List.not_mem_nil, or_false] at hex; rcases hex with rfl <;> (simp [List.getElem?_append, hfs6, hfs8] at hk; subst hk; refine ⟨?_, by first | omega | (simp; done) | (simp; omega)⟩; simp [qids, asksB, Op.operands, Call.operands, topId, numS, numI, Wd, hfq7]; try omega)) ?_
    try simp only []
    refine DQ.sto1 (m := 6) [] _ (by simp (disch := first|omega|(simp only[ln];omega)) [runDf.eq_def, runF1, runF2, stepF.eq_def, updo.eq_def, hupo.eq_def, opSto1.eq_def, idf_Wd', idf_numS, cells_numS, numS_fold, idf_numI, cells_numI, numI_fold, Pt.av, Pt.cells, spA, spC, numC]; rfl) rfl (by simp only [List.length_append, List.length_cons, List.length_nil, hfs6, hfs8]; omega) (by kernel_rfl) (by intro k f hk hex; simp only [List.not_mem_nil] at hex) ?_
    try simp only []
    refine hK5 _ ?_
    refine AWP.seqk fun K9 hK9 => ?_
    have e3 : p.w.v * q.w.v * 2 = midW p q := by unfold midW; rw [Int.mul_comm]
    have sp := spotPoint_fc (j := 10) (midX p q) (midY p q) (midW p q) (((pX.mul qW).add (qX.mul pW)).le (by omega)) (((pY.mul qW).add (qY.mul pW)).le (by omega)) (((Bg.i64 (n := 2) (by omega) (by omega)).mul (pW.mul qW)).le (by omega)) (by omega)
    have b3 := by_fc (pW.mul qW) (Bg.i64 (n := 2) (by omega) (by omega)) (by omega) (by omega)
    rw [e3] at b3
    have p1 := plus_fc (pX.mul qW) (qX.mul pW) (by omega) (by omega)
    have p2 := plus_fc (pY.mul qW) (qY.mul pW) (by omega) (by omega)
    rw [show p.x.v * q.w.v + q.x.v * p.w.v = midX p q from rfl] at p1
    rw [show p.y.v * q.w.v + q.y.v * p.w.v = midY p q from rfl] at p2
    refine AWP.draw 33 Try.checked.mixed (by kernel_rfl) (by simp) ?_
    simp only [List.take_succ_cons, List.take_zero, List.drop_succ_cons, List.drop_zero]
    refine DP.runFk 4 (by simp (disch := first|omega|(simp only[ln];omega)) [runDf.eq_def, runF1, runF2, stepF.eq_def, updo.eq_def, hupo.eq_def, opSto1.eq_def, List.take_succ_cons, List.take_zero, idf_Wd', idf_numS, cells_numS, numS_fold, idf_numI, cells_numI, numI_fold, Pt.av, Pt.cells, spA, spC, numC]; rfl) fun fs10 hfs10 => ?_
    replace hfs10 : fs10.length = 4 := hfs10.trans rfl
    simp only [List.drop_succ_cons, List.drop_zero]
    refine DP.fcall (by_fc pX qW (by omega) (by omega)) rfl rfl rfl hb92 (by simp (disch := first|omega|(simp only[ln];omega)) [idf_Wd', idf_numS, cells_numS, numS_fold, idf_numI, cells_numI, numI_fold, Pt.av, Pt.cells, spA, spC, numC]) (by simp (disch := first|omega|(simp only[ln];omega))) (by simp) ?_
    simp only [updo]
    refine DP.runFk 4 (by simp (disch := first|omega|(simp only[ln];omega)) [runDf.eq_def, runF1, runF2, stepF.eq_def, updo.eq_def, hupo.eq_def, opSto1.eq_def, List.take_succ_cons, List.take_zero, idf_Wd', idf_numS, cells_numS, numS_fold, idf_numI, cells_numI, numI_fold, Pt.av, Pt.cells, spA, spC, numC]; rfl) fun fs11 hfs11 => ?_
    replace hfs11 : fs11.length = 4 := hfs11.trans rfl
    simp only [List.drop_succ_cons, List.drop_zero]
    refine DP.fcall (by_fc qX pW (by omega) (by omega)) rfl rfl rfl hb92 (by simp (disch := first|omega|(simp only[ln];omega)) [idf_Wd', idf_numS, cells_numS, numS_fold, idf_numI, cells_numI, numI_fold, Pt.av, Pt.cells, spA, spC, numC]) (by simp (disch := first|omega|(simp only[ln];omega))) (by simp) ?_
    simp only [updo]
    refine DP.fcall (p1) rfl rfl rfl hb101 (by simp (disch := first|omega|(simp only[ln];omega)) [idf_Wd', idf_numS, cells_numS, numS_fold, idf_numI, cells_numI, numI_fold, Pt.av, Pt.cells, spA, spC, numC]) (by simp (disch := first|omega|(simp only[ln];omega))) (by simp) ?_
    simp only [updo]
    refine DP.runFk 4 (by simp (disch := first|omega|(simp only[ln];omega)) [runDf.eq_def, runF1, runF2, stepF.eq_def, updo.eq_def, hupo.eq_def, opSto1.eq_def, List.take_succ_cons, List.take_zero, idf_Wd', idf_numS, cells_numS, numS_fold, idf_numI, cells_numI, numI_fold, Pt.av, Pt.cells, spA, spC, numC]; rfl) fun fs12 hfs12 => ?_
    replace hfs12 : fs12.length = 4 := hfs12.trans rfl
    simp only [List.drop_succ_cons, List.drop_zero]
    refine DP.fcall (by_fc pY qW (by omega) (by omega)) rfl rfl rfl hb92 (by simp (disch := first|omega|(simp only[ln];omega)) [idf_Wd', idf_numS, cells_numS, numS_fold, idf_numI, cells_numI, numI_fold, Pt.av, Pt.cells, spA, spC, numC]) (by simp (disch := first|omega|(simp only[ln];omega))) (by simp) ?_
    simp only [updo]
    refine DP.runFk 4 (by simp (disch := first|omega|(simp only[ln];omega)) [runDf.eq_def, runF1, runF2, stepF.eq_def, updo.eq_def, hupo.eq_def, opSto1.eq_def, List.take_succ_cons, List.take_zero, idf_Wd', idf_numS, cells_numS, numS_fold, idf_numI, cells_numI, numI_fold, Pt.av, Pt.cells, spA, spC, numC]; rfl) fun fs13 hfs13 => ?_
    replace hfs13 : fs13.length = 4 := hfs13.trans rfl
    simp only [List.drop_succ_cons, List.drop_zero]
    refine DP.fcall (by_fc qY pW (by omega) (by omega)) rfl rfl rfl hb92 (by simp (disch := first|omega|(simp only[ln];omega)) [idf_Wd', idf_numS, cells_numS, numS_fold, idf_numI, cells_numI, numI_fold, Pt.av, Pt.cells, spA, spC, numC]) (by simp (disch := first|omega|(simp only[ln];omega))) (by simp) ?_
    simp only [updo]
    refine DP.fcall (p2) rfl rfl rfl hb101 (by simp (disch := first|omega|(simp only[ln];omega)) [idf_Wd', idf_numS, cells_numS, numS_fold, idf_numI, cells_numI, numI_fold, Pt.av, Pt.cells, spA, spC, numC]) (by simp (disch := first|omega|(simp only[ln];omega))) (by simp) ?_
    simp only [updo]
    refine DP.runFk 4 (by simp (disch := first|omega|(simp only[ln];omega)) [runDf.eq_def, runF1, runF2, stepF.eq_def, updo.eq_def, hupo.eq_def, opSto1.eq_def, List.take_succ_cons, List.take_zero, idf_Wd', idf_numS, cells_numS, numS_fold, idf_numI, cells_numI, numI_fold, Pt.av, Pt.cells, spA, spC, numC]; rfl) fun fs14 hfs14 => ?_
    replace hfs14 : fs14.length = 4 := hfs14.trans rfl
    simp only [List.drop_succ_cons, List.drop_zero]
    refine DP.fcall (by_fc pW qW (by omega) (by omega)) rfl rfl rfl hb92 (by simp (disch := first|omega|(simp only[ln];omega)) [idf_Wd', idf_numS, cells_numS, numS_fold, idf_numI, cells_numI, numI_fold, Pt.av, Pt.cells, spA, spC, numC]) (by simp (disch := first|omega|(simp only[ln];omega))) (by simp) ?_
    simp only [updo]
    refine DP.fcall (whole_fc 2 (by omega) (by omega)) rfl rfl rfl hb89 (by simp (disch := first|omega|(simp only[ln];omega)) [idf_Wd', idf_numS, cells_numS, numS_fold, idf_numI, cells_numI, numI_fold, Pt.av, Pt.cells, spA, spC, numC]) (by simp (disch := first|omega|(simp only[ln];omega))) (by simp) ?_
    simp only [updo]
    refine DP.fcall (b3) rfl rfl rfl hb92 (by simp (disch := first|omega|(simp only[ln];omega)) [idf_Wd', idf_numS, cells_numS, numS_fold, idf_numI, cells_numI, numI_fold, Pt.av, Pt.cells, spA, spC, numC]) (by simp (disch := first|omega|(simp only[ln];omega))) (by simp) ?_
    simp only [updo]
    refine DP.runFk 1 (by simp (disch := first|omega|(simp only[ln];omega)) [runDf.eq_def, runF1, runF2, stepF.eq_def, updo.eq_def, hupo.eq_def, opSto1.eq_def, List.take_succ_cons, List.take_zero, idf_Wd', idf_numS, cells_numS, numS_fold, idf_numI, cells_numI, numI_fold, Pt.av, Pt.cells, spA, spC, numC]; rfl) fun fs15 hfs15 => ?_
    replace hfs15 : fs15.length = 1 := hfs15.trans rfl
    simp only [List.drop_succ_cons, List.drop_zero]
    refine DP.fcall (sp) rfl rfl rfl hb93 (by simp (disch := first|omega|(simp only[ln];omega)) [idf_Wd', idf_numS, cells_numS, numS_fold, idf_numI, cells_numI, numI_fold, Pt.av, Pt.cells, spA, spC, numC]) (by simp (disch := first|omega|(simp only[ln];omega))) (by simp) ?_
    simp only [updo]
    refine DP.runFk 2 (by simp (disch := first|omega|(simp only[ln];omega)) [runDf.eq_def, runF1, runF2, stepF.eq_def, updo.eq_def, hupo.eq_def, opSto1.eq_def, List.take_succ_cons, List.take_zero, idf_Wd', idf_numS, cells_numS, numS_fold, idf_numI, cells_numI, numI_fold, Pt.av, Pt.cells, spA, spC, numC]; rfl) fun fs16 hfs16 => ?_
    replace hfs16 : fs16.length = 2 := hfs16.trans rfl
    simp only [List.drop_succ_cons, List.drop_zero]
    refine DQ.runF (m := 33) (by simp only [List.length_append, List.length_cons, List.length_nil, hfs10, hfs11, hfs12, hfs13, hfs14, hfs15, hfs16]; omega) _ _ _ (by kernel_rfl) rfl (by simp (disch := first|omega|(simp only[ln];omega)) [runDf.eq_def, runF1, runF2, stepF.eq_def, updo.eq_def, hupo.eq_def, opSto1.eq_def, idf_Wd', idf_numS, cells_numS, numS_fold, idf_numI, cells_numI, numI_fold, Pt.av, Pt.cells, spA, spC, numC]; rfl) ?_
    refine hK9 _ ?_
    refine AWP.ret ?_
    exact hK _ _ _ _ trivial ((Fin.mk (by simp [aRes, aResL, aRes1, idf_Wd', idf_numS, cells_numS, numS_fold, idf_numI, cells_numI, numI_fold, Pt.av, Pt.cells, spA, spC, numC]; rfl)).cast (by unfold midP midB; rw [if_pos hg, if_pos hg]; try rfl))

set_option maxHeartbeats 1000000 in
theorem betweenI_fc (p q r : Pt) (hp : p.ok) (hq : q.ok) (hr : r.ok) (gp : p.good = true) (gq : q.good = true) (gr : r.good = true) : FC Try.prog 31 [p.av, q.av, r.av] (.bool (btI p q r)) := by
  have ha := arePoints_fc [p, q, r] (by simp [hp, hq, hr]) (by simp)
  have e : [p, q, r].all Pt.good = true := by simp [gp, gq, gr]
  rw [e] at ha
  refine FC.body Try.func31 rfl (by simp [idfL, idf, Pt.av, Pt.cells]) (by simp [idfL, idf, idfLL_iff, idf_Wd', idf_numS, cells_numS, numS_fold, idf_numI, cells_numI, numI_fold, Pt.av, Pt.cells]) 18 rfl fun nx K hK => ?_
  refine AWP.seqk fun K1 hK1 => ?_
  refine AWP.region (AOPS.all (by simp (disch := first|omega|(simp only[ln];omega)) [idf_Wd', idf_numS, cells_numS, numS_fold, idf_numI, cells_numI, numI_fold, Pt.av, Pt.cells]; rfl) ?_)
  refine hK1 _ ?_
  refine AWP.seqk fun K2 hK2 => ?_
  refine AWP.region ?_
  refine AOPS.runk 4 (by simp (disch := first|omega|(simp only[ln];omega)) [List.take_succ_cons, List.take_zero, idf_Wd', idf_numS, cells_numS, numS_fold, idf_numI, cells_numI, numI_fold, Pt.av, Pt.cells]; rfl) ?_
  simp only [List.drop_succ_cons, List.drop_zero]
  refine AOPS.frz1 10 (nx + 1 + 1 + 1) 12 [p.cells, q.cells, r.cells] (.isl [p.cells, q.cells, r.cells]) (by simp [Pt.cells]) (by simp [fz]) ?_
  refine AOPS.fcall (ha) rfl rfl rfl hb79 (by simp (disch := first|omega|(simp only[ln];omega)) [idf_Wd', idf_numS, cells_numS, numS_fold, idf_numI, cells_numI, numI_fold, Pt.av, Pt.cells]) (by simp (disch := first|omega|(simp only[ln];omega))) (by simp) ?_
  simp only [puts_some, updo]
  refine AOPS.runk 4 (by simp (disch := first|omega|(simp only[ln];omega)) [List.take_succ_cons, List.take_zero, idf_Wd', idf_numS, cells_numS, numS_fold, idf_numI, cells_numI, numI_fold, Pt.av, Pt.cells]; rfl) ?_
  simp only [List.drop_succ_cons, List.drop_zero]
  refine AOPS.fcall (between_fc p q r hp hq hr gp gq gr) rfl rfl rfl hb107 (by simp (disch := first|omega|(simp only[ln];omega)) [idf_Wd', idf_numS, cells_numS, numS_fold, idf_numI, cells_numI, numI_fold, Pt.av, Pt.cells]) (by simp (disch := first|omega|(simp only[ln];omega))) (by simp) ?_
  simp only [puts_some, updo]
  refine AOPS.all (by simp (disch := first|omega|(simp only[ln];omega)) [idf_Wd', idf_numS, cells_numS, numS_fold, idf_numI, cells_numI, numI_fold, Pt.av, Pt.cells]; rfl) ?_
  refine hK2 _ ?_
  refine AWP.ret ?_
  exact hK _ _ _ _ trivial (Fin.mk (by simp (disch := first|omega|(simp only[ln];omega)) [aRes, aResL, aRes1, idf_Wd', idf_numS, cells_numS, numS_fold, idf_numI, cells_numI, numI_fold, Pt.av, Pt.cells]))

set_option maxHeartbeats 4000000 in
theorem dist2_fc (p q : Pt) (hp : p.ok) (hq : q.ok) : FC Try.prog 33 [p.av, q.av] (.tup [.agg [.int .u64 ((d2F p q).1).up.a, .int .u64 ((d2F p q).1).up.b, .int .u64 ((d2F p q).1).up.c, .int .u64 ((d2F p q).1).up.d, .int .u64 ((d2F p q).1).down.a, .int .u64 ((d2F p q).1).down.b, .int .u64 ((d2F p q).1).down.c, .int .u64 ((d2F p q).1).down.d], .bool (d2F p q).2]) := by
  have ha := arePoints_fc [p, q] (by simp [hp, hq]) (by simp)
  have e : [p, q].all Pt.good = (p.good && q.good) := by simp
  rw [e] at ha
  have pX := W4.bg hp.1
  have pY := W4.bg hp.2.1
  have pW := W4.bg hp.2.2
  have qX := W4.bg hq.1
  have qY := W4.bg hq.2.1
  have qW := W4.bg hq.2.2
  refine FC.body Try.func33 rfl (by simp [idfL, idf, Pt.av, Pt.cells]) (by simp [idfL, idf, idfLL_iff, idf_Wd', idf_numS, cells_numS, numS_fold, idf_numI, cells_numI, numI_fold, Pt.av, Pt.cells, spA, spC, numC, rtA, rtC]) 62 rfl fun nx K hK => ?_
  refine AWP.seqk fun K1 hK1 => ?_
  refine AWP.region (AOPS.all (by simp (disch := first|omega|(simp only[ln];omega)) [idf_Wd', idf_numS, cells_numS, numS_fold, idf_numI, cells_numI, numI_fold, Pt.av, Pt.cells, spA, spC, numC, rtA, rtC]; rfl) ?_)
  refine hK1 _ ?_
  refine AWP.seqk fun K2 hK2 => ?_
  refine AWP.seqk fun K3 hK3 => ?_
  refine AWP.region ?_
  refine AOPS.runk 3 (by simp (disch := first|omega|(simp only[ln];omega)) [List.take_succ_cons, List.take_zero, idf_Wd', idf_numS, cells_numS, numS_fold, idf_numI, cells_numI, numI_fold, Pt.av, Pt.cells, spA, spC, numC, rtA, rtC]; rfl) ?_
  simp only [List.drop_succ_cons, List.drop_zero]
  refine AOPS.frz1 13 (nx + 1 + 1 + 1) 12 [p.cells, q.cells] (.isl [p.cells, q.cells]) (by simp [Pt.cells]) (by simp [fz]) ?_
  refine AOPS.fcall (ha) rfl rfl rfl hb79 (by simp (disch := first|omega|(simp only[ln];omega)) [idf_Wd', idf_numS, cells_numS, numS_fold, idf_numI, cells_numI, numI_fold, Pt.av, Pt.cells, spA, spC, numC, rtA, rtC]) (by simp (disch := first|omega|(simp only[ln];omega))) (by simp) ?_
  simp only [puts_some, updo]
  refine AOPS.all (by simp (disch := first|omega|(simp only[ln];omega)) [idf_Wd', idf_numS, cells_numS, numS_fold, idf_numI, cells_numI, numI_fold, Pt.av, Pt.cells, spA, spC, numC, rtA, rtC]; rfl) ?_
  refine hK3 _ ?_
  refine cond_ok (!(p.good && q.good)) (by simp (disch := first|omega|(simp only[ln];omega))) (fun h15 => ?_) (fun h15 => ?_)
  · try simp only [decide_eq_true_eq, decide_eq_false_iff_not] at h15
    have hg : (p.good && q.good) = false := by revert h15; cases p.good <;> cases q.good <;> simp
    refine AWP.seqk fun K4 hK4 => ?_
    refine AWP.region (AOPS.all (by simp (disch := first|omega|(simp only[ln];omega)) [idf_Wd', idf_numS, cells_numS, numS_fold, idf_numI, cells_numI, numI_fold, Pt.av, Pt.cells, spA, spC, numC, rtA, rtC]; rfl) ?_)
    refine hK4 _ ?_
    refine AWP.ret ?_
    exact hK _ _ _ _ trivial ((Fin.mk (by simp [aRes, aResL, aRes1, idf_Wd', idf_numS, cells_numS, numS_fold, idf_numI, cells_numI, numI_fold, Pt.av, Pt.cells, spA, spC, numC, rtA, rtC]; rfl)).cast (by unfold d2F; rw [hg]; rfl))
  · try simp only [decide_eq_true_eq, decide_eq_false_iff_not] at h15
    have hg : (p.good && q.good) = true := by revert h15; cases p.good <;> cases q.good <;> simp
    refine AWP.skip ?_
    refine hK2 _ ?_
    refine AWP.seqk fun K5 hK5 => ?_
    refine AWP.old fun hold => ?_
    refine AWP.draw 6 Try.checked.mixed (by kernel_rfl) (by simp) ?_
    simp only [List.take_succ_cons, List.take_zero, List.drop_succ_cons, List.drop_zero]
    refine DP.runFk 1 (by simp (disch := first|omega|(simp only[ln];omega)) [runDf.eq_def, runF1, runF2, stepF.eq_def, updo.eq_def, hupo.eq_def, opSto1.eq_def, List.take_succ_cons, List.take_zero, idf_Wd', idf_numS, cells_numS, numS_fold, idf_numI, cells_numI, numI_fold, Pt.av, Pt.cells, spA, spC, numC, rtA, rtC]; rfl) fun fs6 hfs6 => ?_
    replace hfs6 : fs6.length = 1 := hfs6.trans rfl
    simp only [List.drop_succ_cons, List.drop_zero]
    refine DP.fcall (spot_fc p hp) rfl rfl rfl hb84 (by simp (disch := first|omega|(simp only[ln];omega)) [idf_Wd', idf_numS, cells_numS, numS_fold, idf_numI, cells_numI, numI_fold, Pt.av, Pt.cells, spA, spC, numC, rtA, rtC]) (by simp (disch := first|omega|(simp only[ln];omega))) (by simp) ?_
    simp only [updo]
    refine DP.runF1q (by simp (disch := first|omega|(simp only[ln];omega)) [runDf.eq_def, runF1, runF2, stepF.eq_def, updo.eq_def, hupo.eq_def, opSto1.eq_def, idf_Wd', idf_numS, cells_numS, numS_fold, idf_numI, cells_numI, numI_fold, Pt.av, Pt.cells, spA, spC, numC, rtA, rtC]; rfl) fun fq7 hfq7 => ?_
    simp [qids, asksB, Op.operands, topId] at hfq7
    simp only [updo]
    refine DP.fcall (spot_fc q hq) rfl rfl rfl hb84 (by simp (disch := first|omega|(simp only[ln];omega)) [idf_Wd', idf_numS, cells_numS, numS_fold, idf_numI, cells_numI, numI_fold, Pt.av, Pt.cells, spA, spC, numC, rtA, rtC]) (by simp (disch := first|omega|(simp only[ln];omega))) (by simp) ?_
    simp only [updo]
    refine DP.runFk 2 (by simp (disch := first|omega|(simp only[ln];omega)) [runDf.eq_def, runF1, runF2, stepF.eq_def, updo.eq_def, hupo.eq_def, opSto1.eq_def, List.take_succ_cons, List.take_zero, idf_Wd', idf_numS, cells_numS, numS_fold, idf_numI, cells_numI, numI_fold, Pt.av, Pt.cells, spA, spC, numC, rtA, rtC]; rfl) fun fs8 hfs8 => ?_
    replace hfs8 : fs8.length = 2 := hfs8.trans rfl
    simp only [List.drop_succ_cons, List.drop_zero]
    refine DQ.sto1 (m := 6) [2] _ (by simp (disch := first|omega|(simp only[ln];omega)) [runDf.eq_def, runF1, runF2, stepF.eq_def, updo.eq_def, hupo.eq_def, opSto1.eq_def, idf_Wd', idf_numS, cells_numS, numS_fold, idf_numI, cells_numI, numI_fold, Pt.av, Pt.cells, spA, spC, numC, rtA, rtC]; rfl) rfl (by simp only [List.length_append, List.length_cons, List.length_nil, hfs6, hfs8]; omega) (by kernel_rfl) (by intro k f hk hex; simp only [List.mem_cons, List.not_mem_nil, or_false] at hex; rcases hex with rfl <;> (simp [List.getElem?_append, hfs6, hfs8] at hk; subst hk; refine ⟨?_, by first | omega | (simp; done) | (simp; omega)⟩; simp [qids, asksB, Op.operands, Call.operands, topId, numS, numI, Wd, hfq7]; try omega)) ?_
    try simp only []
    refine DQ.sto1 (m := 6) [] _ (by simp (disch := first|omega|(simp only[ln];omega)) [runDf.eq_def, runF1, runF2, stepF.eq_def, updo.eq_def, hupo.eq_def, opSto1.eq_def, idf_Wd', idf_numS, cells_numS, numS_fold, idf_numI, cells_numI, numI_fold, Pt.av, Pt.cells, spA, spC, numC, rtA, rtC]; rfl) rfl (by simp only [List.length_append, List.length_cons, List.length_nil, hfs6, hfs8]; omega) (by kernel_rfl) (by intro k f hk hex; simp only [List.not_mem_nil] at hex) ?_
    try simp only []
    refine hK5 _ ?_
    refine AWP.seqk fun K9 hK9 => ?_
    have xx := less_fc (pX.mul qW) (qX.mul pW) (by omega) (by omega)
    have bx := (pX.mul qW).sub (qX.mul pW)
    have yy := less_fc (pY.mul qW) (qY.mul pW) (by omega) (by omega)
    have bY := (pY.mul qW).sub (qY.mul pW)
    have ww := by_fc pW qW (by omega) (by omega)
    have bw := pW.mul qW
    have dn : dN p q = (p.x.v * q.w.v - q.x.v * p.w.v) * (p.x.v * q.w.v - q.x.v * p.w.v) + (p.y.v * q.w.v - q.y.v * p.w.v) * (p.y.v * q.w.v - q.y.v * p.w.v) := rfl
    have dd : dD p q = (p.w.v * q.w.v) * (p.w.v * q.w.v) := rfl
    refine AWP.draw 12 Try.checked.mixed (by kernel_rfl) (by simp) ?_
    simp only [List.take_succ_cons, List.take_zero, List.drop_succ_cons, List.drop_zero]
    refine DP.runFk 4 (by simp (disch := first|omega|(simp only[ln];omega)) [runDf.eq_def, runF1, runF2, stepF.eq_def, updo.eq_def, hupo.eq_def, opSto1.eq_def, List.take_succ_cons, List.take_zero, idf_Wd', idf_numS, cells_numS, numS_fold, idf_numI, cells_numI, numI_fold, Pt.av, Pt.cells, spA, spC, numC, rtA, rtC]; rfl) fun fs10 hfs10 => ?_
    replace hfs10 : fs10.length = 4 := hfs10.trans rfl
    simp only [List.drop_succ_cons, List.drop_zero]
    refine DP.fcall (by_fc pX qW (by omega) (by omega)) rfl rfl rfl hb92 (by simp (disch := first|omega|(simp only[ln];omega)) [idf_Wd', idf_numS, cells_numS, numS_fold, idf_numI, cells_numI, numI_fold, Pt.av, Pt.cells, spA, spC, numC, rtA, rtC]) (by simp (disch := first|omega|(simp only[ln];omega))) (by simp) ?_
    simp only [updo]
    refine DP.runFk 4 (by simp (disch := first|omega|(simp only[ln];omega)) [runDf.eq_def, runF1, runF2, stepF.eq_def, updo.eq_def, hupo.eq_def, opSto1.eq_def, List.take_succ_cons, List.take_zero, idf_Wd', idf_numS, cells_numS, numS_fold, idf_numI, cells_numI, numI_fold, Pt.av, Pt.cells, spA, spC, numC, rtA, rtC]; rfl) fun fs11 hfs11 => ?_
    replace hfs11 : fs11.length = 4 := hfs11.trans rfl
    simp only [List.drop_succ_cons, List.drop_zero]
    refine DP.fcall (by_fc qX pW (by omega) (by omega)) rfl rfl rfl hb92 (by simp (disch := first|omega|(simp only[ln];omega)) [idf_Wd', idf_numS, cells_numS, numS_fold, idf_numI, cells_numI, numI_fold, Pt.av, Pt.cells, spA, spC, numC, rtA, rtC]) (by simp (disch := first|omega|(simp only[ln];omega))) (by simp) ?_
    simp only [updo]
    refine DP.fcall (xx) rfl rfl rfl hb109 (by simp (disch := first|omega|(simp only[ln];omega)) [idf_Wd', idf_numS, cells_numS, numS_fold, idf_numI, cells_numI, numI_fold, Pt.av, Pt.cells, spA, spC, numC, rtA, rtC]) (by simp (disch := first|omega|(simp only[ln];omega))) (by simp) ?_
    simp only [updo]
    refine DP.runFk 1 (by simp (disch := first|omega|(simp only[ln];omega)) [runDf.eq_def, runF1, runF2, stepF.eq_def, updo.eq_def, hupo.eq_def, opSto1.eq_def, List.take_succ_cons, List.take_zero, idf_Wd', idf_numS, cells_numS, numS_fold, idf_numI, cells_numI, numI_fold, Pt.av, Pt.cells, spA, spC, numC, rtA, rtC]; rfl) fun fs12 hfs12 => ?_
    replace hfs12 : fs12.length = 1 := hfs12.trans rfl
    simp only [List.drop_succ_cons, List.drop_zero]
    refine DQ.runF (m := 12) (by simp only [List.length_append, List.length_cons, List.length_nil, hfs10, hfs11, hfs12]; omega) _ _ _ (by kernel_rfl) rfl (by simp (disch := first|omega|(simp only[ln];omega)) [runDf.eq_def, runF1, runF2, stepF.eq_def, updo.eq_def, hupo.eq_def, opSto1.eq_def, idf_Wd', idf_numS, cells_numS, numS_fold, idf_numI, cells_numI, numI_fold, Pt.av, Pt.cells, spA, spC, numC, rtA, rtC]; rfl) ?_
    refine hK9 _ ?_
    refine AWP.seqk fun K13 hK13 => ?_
    refine AWP.draw 12 Try.checked.mixed (by kernel_rfl) (by simp) ?_
    simp only [List.take_succ_cons, List.take_zero, List.drop_succ_cons, List.drop_zero]
    refine DP.runFk 4 (by simp (disch := first|omega|(simp only[ln];omega)) [runDf.eq_def, runF1, runF2, stepF.eq_def, updo.eq_def, hupo.eq_def, opSto1.eq_def, List.take_succ_cons, List.take_zero, idf_Wd', idf_numS, cells_numS, numS_fold, idf_numI, cells_numI, numI_fold, Pt.av, Pt.cells, spA, spC, numC, rtA, rtC]; rfl) fun fs14 hfs14 => ?_
    replace hfs14 : fs14.length = 4 := hfs14.trans rfl
    simp only [List.drop_succ_cons, List.drop_zero]
    refine DP.fcall (by_fc pY qW (by omega) (by omega)) rfl rfl rfl hb92 (by simp (disch := first|omega|(simp only[ln];omega)) [idf_Wd', idf_numS, cells_numS, numS_fold, idf_numI, cells_numI, numI_fold, Pt.av, Pt.cells, spA, spC, numC, rtA, rtC]) (by simp (disch := first|omega|(simp only[ln];omega))) (by simp) ?_
    simp only [updo]
    refine DP.runFk 4 (by simp (disch := first|omega|(simp only[ln];omega)) [runDf.eq_def, runF1, runF2, stepF.eq_def, updo.eq_def, hupo.eq_def, opSto1.eq_def, List.take_succ_cons, List.take_zero, idf_Wd', idf_numS, cells_numS, numS_fold, idf_numI, cells_numI, numI_fold, Pt.av, Pt.cells, spA, spC, numC, rtA, rtC]; rfl) fun fs15 hfs15 => ?_
    replace hfs15 : fs15.length = 4 := hfs15.trans rfl
    simp only [List.drop_succ_cons, List.drop_zero]
    refine DP.fcall (by_fc qY pW (by omega) (by omega)) rfl rfl rfl hb92 (by simp (disch := first|omega|(simp only[ln];omega)) [idf_Wd', idf_numS, cells_numS, numS_fold, idf_numI, cells_numI, numI_fold, Pt.av, Pt.cells, spA, spC, numC, rtA, rtC]) (by simp (disch := first|omega|(simp only[ln];omega))) (by simp) ?_
    simp only [updo]
    refine DP.fcall (yy) rfl rfl rfl hb109 (by simp (disch := first|omega|(simp only[ln];omega)) [idf_Wd', idf_numS, cells_numS, numS_fold, idf_numI, cells_numI, numI_fold, Pt.av, Pt.cells, spA, spC, numC, rtA, rtC]) (by simp (disch := first|omega|(simp only[ln];omega))) (by simp) ?_
    simp only [updo]
    refine DP.runFk 1 (by simp (disch := first|omega|(simp only[ln];omega)) [runDf.eq_def, runF1, runF2, stepF.eq_def, updo.eq_def, hupo.eq_def, opSto1.eq_def, List.take_succ_cons, List.take_zero, idf_Wd', idf_numS, cells_numS, numS_fold, idf_numI, cells_numI, numI_fold, Pt.av, Pt.cells, spA, spC, numC, rtA, rtC]; rfl) fun fs16 hfs16 => ?_
    replace hfs16 : fs16.length = 1 := hfs16.trans rfl
    simp only [List.drop_succ_cons, List.drop_zero]
    refine DQ.runF (m := 12) (by simp only [List.length_append, List.length_cons, List.length_nil, hfs14, hfs15, hfs16]; omega) _ _ _ (by kernel_rfl) rfl (by simp (disch := first|omega|(simp only[ln];omega)) [runDf.eq_def, runF1, runF2, stepF.eq_def, updo.eq_def, hupo.eq_def, opSto1.eq_def, idf_Wd', idf_numS, cells_numS, numS_fold, idf_numI, cells_numI, numI_fold, Pt.av, Pt.cells, spA, spC, numC, rtA, rtC]; rfl) ?_
    refine hK13 _ ?_
    refine AWP.seqk fun K17 hK17 => ?_
    refine AWP.region ?_
    refine AOPS.runk 4 (by simp (disch := first|omega|(simp only[ln];omega)) [List.take_succ_cons, List.take_zero, idf_Wd', idf_numS, cells_numS, numS_fold, idf_numI, cells_numI, numI_fold, Pt.av, Pt.cells, spA, spC, numC, rtA, rtC]; rfl) ?_
    simp only [List.drop_succ_cons, List.drop_zero]
    refine AOPS.fcall (ww) rfl rfl rfl hb92 (by simp (disch := first|omega|(simp only[ln];omega)) [idf_Wd', idf_numS, cells_numS, numS_fold, idf_numI, cells_numI, numI_fold, Pt.av, Pt.cells, spA, spC, numC, rtA, rtC]) (by simp (disch := first|omega|(simp only[ln];omega))) (by simp) ?_
    simp only [puts_some, updo]
    refine AOPS.all (by simp (disch := first|omega|(simp only[ln];omega)) [idf_Wd', idf_numS, cells_numS, numS_fold, idf_numI, cells_numI, numI_fold, Pt.av, Pt.cells, spA, spC, numC, rtA, rtC]; rfl) ?_
    refine hK17 _ ?_
    refine AWP.seqk fun K18 hK18 => ?_
    generalize p.x.v * q.w.v - q.x.v * p.w.v = A at *
    generalize p.y.v * q.w.v - q.y.v * p.w.v = B at *
    generalize p.w.v * q.w.v = C at *
    have td := told_fc (j := 40) (A * A + B * B) (C * C) (((bx.mul bx).add (bY.mul bY)).le (by omega)) ((bw.mul bw).le (by omega)) (by omega)
    refine AWP.draw 14 Try.checked.mixed (by kernel_rfl) (by simp) ?_
    simp only [List.take_succ_cons, List.take_zero, List.drop_succ_cons, List.drop_zero]
    refine DP.runFk 2 (by simp (disch := first|omega|(simp only[ln];omega)) [runDf.eq_def, runF1, runF2, stepF.eq_def, updo.eq_def, hupo.eq_def, opSto1.eq_def, List.take_succ_cons, List.take_zero, idf_Wd', idf_numS, cells_numS, numS_fold, idf_numI, cells_numI, numI_fold, Pt.av, Pt.cells, spA, spC, numC, rtA, rtC]; rfl) fun fs19 hfs19 => ?_
    replace hfs19 : fs19.length = 2 := hfs19.trans rfl
    simp only [List.drop_succ_cons, List.drop_zero]
    refine DP.fcall (by_fc bx bx (by omega) (by omega)) rfl rfl rfl hb92 (by simp (disch := first|omega|(simp only[ln];omega)) [idf_Wd', rtA, rtC, idf_numS, cells_numS, numS_fold, idf_numI, cells_numI, numI_fold, Pt.av, Pt.cells, spA, spC, numC, rtA, rtC]) (by simp (disch := first|omega|(simp only[ln];omega)) [rtA, rtC]) (by simp) ?_
    simp only [updo]
    refine DP.runFk 2 (by simp (disch := first|omega|(simp only[ln];omega)) [runDf.eq_def, runF1, runF2, stepF.eq_def, updo.eq_def, hupo.eq_def, opSto1.eq_def, List.take_succ_cons, List.take_zero, idf_Wd', idf_numS, cells_numS, numS_fold, idf_numI, cells_numI, numI_fold, Pt.av, Pt.cells, spA, spC, numC, rtA, rtC]; rfl) fun fs20 hfs20 => ?_
    replace hfs20 : fs20.length = 2 := hfs20.trans rfl
    simp only [List.drop_succ_cons, List.drop_zero]
    refine DP.fcall (by_fc bY bY (by omega) (by omega)) rfl rfl rfl hb92 (by simp (disch := first|omega|(simp only[ln];omega)) [idf_Wd', rtA, rtC, idf_numS, cells_numS, numS_fold, idf_numI, cells_numI, numI_fold, Pt.av, Pt.cells, spA, spC, numC, rtA, rtC]) (by simp (disch := first|omega|(simp only[ln];omega)) [rtA, rtC]) (by simp) ?_
    simp only [updo]
    refine DP.fcall (plus_fc (bx.mul bx) (bY.mul bY) (by omega) (by omega)) rfl rfl rfl hb101 (by simp (disch := first|omega|(simp only[ln];omega)) [idf_Wd', rtA, rtC, idf_numS, cells_numS, numS_fold, idf_numI, cells_numI, numI_fold, Pt.av, Pt.cells, spA, spC, numC, rtA, rtC]) (by simp (disch := first|omega|(simp only[ln];omega)) [rtA, rtC]) (by simp) ?_
    simp only [updo]
    refine DP.runFk 2 (by simp (disch := first|omega|(simp only[ln];omega)) [runDf.eq_def, runF1, runF2, stepF.eq_def, updo.eq_def, hupo.eq_def, opSto1.eq_def, List.take_succ_cons, List.take_zero, idf_Wd', idf_numS, cells_numS, numS_fold, idf_numI, cells_numI, numI_fold, Pt.av, Pt.cells, spA, spC, numC, rtA, rtC]; rfl) fun fs21 hfs21 => ?_
    replace hfs21 : fs21.length = 2 := hfs21.trans rfl
    simp only [List.drop_succ_cons, List.drop_zero]
    refine DP.fcall (by_fc bw bw (by omega) (by omega)) rfl rfl rfl hb92 (by simp (disch := first|omega|(simp only[ln];omega)) [idf_Wd', rtA, rtC, idf_numS, cells_numS, numS_fold, idf_numI, cells_numI, numI_fold, Pt.av, Pt.cells, spA, spC, numC, rtA, rtC]) (by simp (disch := first|omega|(simp only[ln];omega)) [rtA, rtC]) (by simp) ?_
    simp only [updo]
    refine DP.runFk 1 (by simp (disch := first|omega|(simp only[ln];omega)) [runDf.eq_def, runF1, runF2, stepF.eq_def, updo.eq_def, hupo.eq_def, opSto1.eq_def, List.take_succ_cons, List.take_zero, idf_Wd', idf_numS, cells_numS, numS_fold, idf_numI, cells_numI, numI_fold, Pt.av, Pt.cells, spA, spC, numC, rtA, rtC]; rfl) fun fs22 hfs22 => ?_
    replace hfs22 : fs22.length = 1 := hfs22.trans rfl
    simp only [List.drop_succ_cons, List.drop_zero]
    refine DP.fcall (td) rfl rfl rfl hb110 (by simp (disch := first|omega|(simp only[ln];omega)) [idf_Wd', rtA, rtC, idf_numS, cells_numS, numS_fold, idf_numI, cells_numI, numI_fold, Pt.av, Pt.cells, spA, spC, numC, rtA, rtC]) (by simp (disch := first|omega|(simp only[ln];omega)) [rtA, rtC]) (by simp) ?_
    simp only [updo]
    refine DP.runFk 2 (by simp (disch := first|omega|(simp only[ln];omega)) [runDf.eq_def, runF1, runF2, stepF.eq_def, updo.eq_def, hupo.eq_def, opSto1.eq_def, List.take_succ_cons, List.take_zero, idf_Wd', idf_numS, cells_numS, numS_fold, idf_numI, cells_numI, numI_fold, Pt.av, Pt.cells, spA, spC, numC, rtA, rtC]; rfl) fun fs23 hfs23 => ?_
    replace hfs23 : fs23.length = 2 := hfs23.trans rfl
    simp only [List.drop_succ_cons, List.drop_zero]
    refine DQ.runF (m := 14) (by simp only [List.length_append, List.length_cons, List.length_nil, hfs19, hfs20, hfs21, hfs22, hfs23]; omega) _ _ _ (by kernel_rfl) rfl (by simp (disch := first|omega|(simp only[ln];omega)) [runDf.eq_def, runF1, runF2, stepF.eq_def, updo.eq_def, hupo.eq_def, opSto1.eq_def, idf_Wd', idf_numS, cells_numS, numS_fold, idf_numI, cells_numI, numI_fold, Pt.av, Pt.cells, spA, spC, numC, rtA, rtC]; rfl) ?_
    refine hK18 _ ?_
    refine AWP.ret ?_
    exact hK _ _ _ _ trivial ((Fin.mk (by simp [aRes, aResL, aRes1, idf_Wd', idf_numS, cells_numS, numS_fold, idf_numI, cells_numI, numI_fold, Pt.av, Pt.cells, spA, spC, numC, rtA, rtC]; rfl)).cast (by unfold d2F; rw [if_pos hg, dn, dd]; try rfl))

end Go.Proofs.Ytmaebeknmiomnaa

/- Walks: FnMiddles, walked: the law. -/
namespace Go.Proofs.Ytmaebeknmiomnaa
open Go Go.RowKit
set_option linter.unusedSimpArgs false
set_option linter.unusedVariables false
set_option maxRecDepth 100000
attribute [local simp] List.getElem?_cons_zero List.getElem?_cons_succ List.getElem?_toArray runOps stepOp.eq_def agd.eq_def dstOk.eq_def opVal.eq_def opNew.eq_def opSto.eq_def ev.eq_def cv.eq_def puts_some puts_none upd_ap lst.eq_def aBin.eq_def aUn.eq_def aBi_str aBi_isl aBi_osl aBi_nsl aBi_max aBi_min aBi_max3 aConv.eq_def aLd.eq_def aLoad.eq_def aField.eq_def aFld.eq_def aIdx_isl aIdx_osl aSlc_isl aSlc_osl aSlc_str aSlc_nsl bnd.eq_def evs_nil evs_cons aBuild.eq_def aFill splice.eq_def cells_agg cells_int cells_bool cells_str cells_nil cells_nsl cells_isl cells_osl cells_ptr cells_ip cells_fn cells_Wd one_int one_bool one_str one_nil one_nsl one_isl one_osl one_ptr one_ip one_fn one_Wd aSets hupd_eq hupd_ne wrap_i64s wrap_u64s wrap_u32s wrap_u8s wd_getD wd_set wd_len wd_replicate wd_one wd_fold fz_osl hupd_same aSix.eq_def aEqS.eq_def aEqB_bool aEqB_nsl aEqB_nil
attribute [local simp] szT2 byT2 agT2 unT2 zoT2 szT4 byT4 agT4 unT4 zoT4 szT26 byT26 agT26 flT26 fdT26_0 fdT26_1 fdT26_2 fdT26_3 zoT26 szT28 byT28 agT28 flT28 fdT28_0 fdT28_1 fdT28_2 zoT28 szT51 byT51 agT51 flT51 fdT51_0 fdT51_1 zoT51

set_option maxHeartbeats 8000000 in
theorem drawMiddle_ac (l : List Int) (H : Heap) (nx : Nat) (dl : Dig 256 l) (hl : l.length ≤ 1048576) (hd : ∀ i q, H i = some q → i < nx) : ACall Try.prog 28 [Wd .u8 l] H nx (fun r H' nx' => (∃ p q : Pt, p.ok ∧ q.ok ∧ r = .tup [.agg [.int .u64 (p).x.a, .int .u64 (p).x.b, .int .u64 (p).x.c, .int .u64 (p).x.d, .int .u64 (p).y.a, .int .u64 (p).y.b, .int .u64 (p).y.c, .int .u64 (p).y.d, .int .u64 (p).w.a, .int .u64 (p).w.b, .int .u64 (p).w.c, .int .u64 (p).w.d], .agg [.int .u64 (q).x.a, .int .u64 (q).x.b, .int .u64 (q).x.c, .int .u64 (q).x.d, .int .u64 (q).y.a, .int .u64 (q).y.b, .int .u64 (q).y.c, .int .u64 (q).y.d, .int .u64 (q).w.a, .int .u64 (q).w.b, .int .u64 (q).w.c, .int .u64 (q).w.d]]) ∧ H' = H ∧ nx ≤ nx') := by
  refine ACall.body Try.func28 rfl 11 rfl fun K hK => ?_
  refine AWP.seqk fun K1 hK1 => ?_
  refine AWP.region (AOPS.all (by simp (disch := first|omega|(simp only[ln];omega)) [idf_Wd', idf_numS, cells_numS, numS_fold, idf_numI, cells_numI, numI_fold]; rfl) ?_)
  refine hK1 _ ?_
  refine AWP.seqk fun K2 hK2 => ?_
  refine AWP.region ?_
  refine AOPS.runk 1 (by simp (disch := first|omega|(simp only[ln];omega)) [List.take_succ_cons, List.take_zero, idf_Wd', idf_numS, cells_numS, numS_fold, idf_numI, cells_numI, numI_fold]; rfl) ?_
  simp only [List.drop_succ_cons, List.drop_zero]
  refine AOPS.old fun hold1 => ?_
  refine AOPS.acall (open_ac l _ _) rfl rfl rfl hb76 (by simp (disch := first|omega|(simp only[ln];omega)) [idf_Wd', idf_numS, cells_numS, numS_fold, idf_numI, cells_numI, numI_fold]) (by simp (disch := first|omega|(simp only[ln];omega))) (by simp) ?_
  rintro _ _ nx1 ⟨rfl, rfl, rfl⟩
  clear hold1
  obtain ⟨id, hid⟩ : ∃ id, id = nx + 1 + 1 := ⟨_, rfl⟩
  obtain ⟨p, hH⟩ : ∃ p : Nat, p = 0 := ⟨_, rfl⟩
  have hp : p ≤ l.length := by omega
  simp only []
  rw [← hid]
  simp only [puts_some, updo]
  refine AOPS.all (by simp (disch := first|omega|(simp only[ln];omega)) [idf_Wd', idf_numS, cells_numS, numS_fold, idf_numI, cells_numI, numI_fold]; rfl) ?_
  refine hK2 _ ?_
  refine AWP.seqk fun K3 hK3 => ?_
  refine AWP.region ?_
  refine AOPS.runk 1 (by simp (disch := first|omega|(simp only[ln];omega)) [List.take_succ_cons, List.take_zero, idf_Wd', idf_numS, cells_numS, numS_fold, idf_numI, cells_numI, numI_fold]; rfl) ?_
  simp only [List.drop_succ_cons, List.drop_zero]
  refine AOPS.old fun hold1 => ?_
  refine AOPS.acall (point_ac l p id _ _ dl hl hp (by simp (disch := omega) [hH]) hold1) rfl rfl rfl hb77 (by simp (disch := first|omega|(simp only[ln];omega)) [idf_Wd', idf_numS, cells_numS, numS_fold, idf_numI, cells_numI, numI_fold]) (by simp (disch := first|omega|(simp only[ln];omega))) (by simp) ?_
  rintro _ _ nx2 ⟨⟨P1, rfl, P1o⟩, ⟨p2, hp2, rfl⟩, hnx2⟩
  try simp only [] at hnx2
  clear hold1
  simp only [puts_some, updo]
  refine AOPS.runk 1 (by simp (disch := first|omega|(simp only[ln];omega)) [List.take_succ_cons, List.take_zero, idf_Wd', idf_numS, cells_numS, numS_fold, idf_numI, cells_numI, numI_fold]; rfl) ?_
  simp only [List.drop_succ_cons, List.drop_zero]
  refine AOPS.old fun hold3 => ?_
  refine AOPS.acall (point_ac l p2 id _ _ dl hl hp2 (by simp (disch := omega) [hH]) hold3) rfl rfl rfl hb77 (by simp (disch := first|omega|(simp only[ln];omega)) [idf_Wd', idf_numS, cells_numS, numS_fold, idf_numI, cells_numI, numI_fold]) (by simp (disch := first|omega|(simp only[ln];omega))) (by simp) ?_
  rintro _ _ nx3 ⟨⟨P2, rfl, P2o⟩, ⟨p3, hp3, rfl⟩, hnx3⟩
  try simp only [] at hnx3
  clear hold3
  simp only [puts_some, updo]
  refine AOPS.all (by simp (disch := first|omega|(simp only[ln];omega)) [idf_Wd', idf_numS, cells_numS, numS_fold, idf_numI, cells_numI, numI_fold]; rfl) ?_
  refine hK3 _ ?_
  refine AWP.ret ?_
  exact hK _ _ _ _ _ trivial ((Fin.mk (r := .tup [.agg [.int .u64 (P1).x.a, .int .u64 (P1).x.b, .int .u64 (P1).x.c, .int .u64 (P1).x.d, .int .u64 (P1).y.a, .int .u64 (P1).y.b, .int .u64 (P1).y.c, .int .u64 (P1).y.d, .int .u64 (P1).w.a, .int .u64 (P1).w.b, .int .u64 (P1).w.c, .int .u64 (P1).w.d], .agg [.int .u64 (P2).x.a, .int .u64 (P2).x.b, .int .u64 (P2).x.c, .int .u64 (P2).x.d, .int .u64 (P2).y.a, .int .u64 (P2).y.b, .int .u64 (P2).y.c, .int .u64 (P2).y.d, .int .u64 (P2).w.a, .int .u64 (P2).w.b, .int .u64 (P2).w.c, .int .u64 (P2).w.d]]) (by simp (disch := omega) [aRes, aResL, aRes1, idf_Wd', idf_numS, cells_numS, numS_fold, idf_numI, cells_numI, numI_fold])).restr (fun i => decide (i < nx))) (⟨⟨P1, P2, P1o, P2o, rfl⟩, by simp (disch := first | omega | (simp; done) | (simp; omega)) [hrestr_in, hrestr_out, hrestr_all hd, hupd_same], by first | omega | (simp at *; omega)⟩)

set_option maxHeartbeats 8000000 in
theorem fnMiddles_fc (l : List Int) (dl : Dig 256 l) : FC Try.prog 5 [Wd .u8 l] (.bool true) := by
  refine FC.body Try.func5 rfl (by simp [idfL, idf, idfLL_iff, idf_Wd', idf_numS, cells_numS, numS_fold, idf_numI, cells_numI, numI_fold, Pt.av, Pt.cells, Rt.av, Rt.cells]) (by simp [idfL, idf, idfLL_iff, idf_Wd', idf_numS, cells_numS, numS_fold, idf_numI, cells_numI, numI_fold, Pt.av, Pt.cells, Rt.av, Rt.cells]) 124 rfl fun nx K hK => ?_
  refine AWP.seqk fun K1 hK1 => ?_
  refine AWP.region (AOPS.all (by simp (disch := first|omega|(simp only[ln];omega)) [idf_Wd', idf_numS, cells_numS, numS_fold, idf_numI, cells_numI, numI_fold, Pt.av, Pt.cells, Rt.av, Rt.cells]; rfl) ?_)
  refine hK1 _ ?_
  refine AWP.seqk fun K2 hK2 => ?_
  refine AWP.seqk fun K3 hK3 => ?_
  refine AWP.region ?_
  refine AOPS.runk 1 (by simp (disch := first|omega|(simp only[ln];omega)) [List.take_succ_cons, List.take_zero, idf_Wd', idf_numS, cells_numS, numS_fold, idf_numI, cells_numI, numI_fold, Pt.av, Pt.cells, Rt.av, Rt.cells]; rfl) ?_
  simp only [List.drop_succ_cons, List.drop_zero]
  refine AOPS.fcall (big_fc l) rfl rfl rfl hb15 (by simp (disch := first|omega|(simp only[ln];omega)) [idf_Wd', idf_numS, cells_numS, numS_fold, idf_numI, cells_numI, numI_fold, Pt.av, Pt.cells, Rt.av, Rt.cells]) (by simp (disch := first|omega|(simp only[ln];omega))) (by simp) ?_
  simp only [puts_some, updo]
  refine AOPS.nil ?_
  refine hK3 _ ?_
  refine cond_ok (decide (1048576 < (l.length : Int))) (by simp (disch := first|omega|(simp only[ln];omega))) (fun h18 => ?_) (fun h18 => ?_)
  · try simp only [decide_eq_true_eq, decide_eq_false_iff_not] at h18
    refine AWP.seqk fun K4 hK4 => ?_
    refine AWP.region (AOPS.all (by simp (disch := first|omega|(simp only[ln];omega)) [idf_Wd', idf_numS, cells_numS, numS_fold, idf_numI, cells_numI, numI_fold, Pt.av, Pt.cells, Rt.av, Rt.cells]; rfl) ?_)
    refine hK4 _ ?_
    refine AWP.ret ?_
    exact hK _ _ _ _ trivial ((Fin.mk (by simp [aRes, aResL, aRes1, idf_Wd', idf_numS, cells_numS, numS_fold, idf_numI, cells_numI, numI_fold, Pt.av, Pt.cells, Rt.av, Rt.cells]; try rfl)))
  · try simp only [decide_eq_true_eq, decide_eq_false_iff_not] at h18
    have hl : l.length ≤ 1048576 := by omega
    refine AWP.skip ?_
    refine hK2 _ ?_
    refine AWP.seqk fun K5 hK5 => ?_
    refine AWP.region ?_
    refine AOPS.runk 1 (by simp (disch := first|omega|(simp only[ln];omega)) [List.take_succ_cons, List.take_zero, idf_Wd', idf_numS, cells_numS, numS_fold, idf_numI, cells_numI, numI_fold, Pt.av, Pt.cells, Rt.av, Rt.cells]; rfl) ?_
    simp only [List.drop_succ_cons, List.drop_zero]
    refine AOPS.old fun hold1 => ?_
    refine AOPS.acall (drawMiddle_ac l _ _ dl hl hold1) rfl rfl rfl hb28 (by simp (disch := first|omega|(simp only[ln];omega)) [idf_Wd', idf_numS, cells_numS, numS_fold, idf_numI, cells_numI, numI_fold, Pt.av, Pt.cells, Rt.av, Rt.cells]) (by simp (disch := first|omega|(simp only[ln];omega))) (by simp) ?_
    rintro _ _ nx1 ⟨⟨P, Q, Po, Qo, rfl⟩, rfl, hnx1⟩
    clear hold1
    have m1 := middleI_fc P Q Po Qo
    have m2 := middleS_fc P Q Po Qo
    simp only [puts_some, updo]
    refine AOPS.all (by simp (disch := first|omega|(simp only[ln];omega)) [idf_Wd', idf_numS, cells_numS, numS_fold, idf_numI, cells_numI, numI_fold, Pt.av, Pt.cells, Rt.av, Rt.cells]; rfl) ?_
    refine hK5 _ ?_
    refine AWP.seqk fun K6 hK6 => ?_
    refine AWP.region ?_
    refine AOPS.runk 2 (by simp (disch := first|omega|(simp only[ln];omega)) [List.take_succ_cons, List.take_zero, idf_Wd', idf_numS, cells_numS, numS_fold, idf_numI, cells_numI, numI_fold, Pt.av, Pt.cells, Rt.av, Rt.cells]; rfl) ?_
    simp only [List.drop_succ_cons, List.drop_zero]
    refine AOPS.fcall (m1) rfl rfl rfl hb29 (by simp (disch := first|omega|(simp only[ln];omega)) [idf_Wd', idf_numS, cells_numS, numS_fold, idf_numI, cells_numI, numI_fold, Pt.av, Pt.cells, Rt.av, Rt.cells]) (by simp (disch := first|omega|(simp only[ln];omega))) (by simp) ?_
    simp only [puts_some, updo]
    refine AOPS.all (by simp (disch := first|omega|(simp only[ln];omega)) [idf_Wd', idf_numS, cells_numS, numS_fold, idf_numI, cells_numI, numI_fold, Pt.av, Pt.cells, Rt.av, Rt.cells]; rfl) ?_
    refine hK6 _ ?_
    refine AWP.seqk fun K7 hK7 => ?_
    refine AWP.region ?_
    refine AOPS.runk 2 (by simp (disch := first|omega|(simp only[ln];omega)) [List.take_succ_cons, List.take_zero, idf_Wd', idf_numS, cells_numS, numS_fold, idf_numI, cells_numI, numI_fold, Pt.av, Pt.cells, Rt.av, Rt.cells]; rfl) ?_
    simp only [List.drop_succ_cons, List.drop_zero]
    refine AOPS.fcall (m2) rfl rfl rfl hb30 (by simp (disch := first|omega|(simp only[ln];omega)) [idf_Wd', idf_numS, cells_numS, numS_fold, idf_numI, cells_numI, numI_fold, Pt.av, Pt.cells, Rt.av, Rt.cells]) (by simp (disch := first|omega|(simp only[ln];omega))) (by simp) ?_
    simp only [puts_some, updo]
    refine AOPS.all (by simp (disch := first|omega|(simp only[ln];omega)) [idf_Wd', idf_numS, cells_numS, numS_fold, idf_numI, cells_numI, numI_fold, Pt.av, Pt.cells, Rt.av, Rt.cells]; rfl) ?_
    refine hK7 _ ?_
    refine AWP.seqk fun K8 hK8 => ?_
    refine AWP.seqk fun K9 hK9 => ?_
    refine AWP.region (AOPS.all (by simp (disch := first|omega|(simp only[ln];omega)) [idf_Wd', idf_numS, cells_numS, numS_fold, idf_numI, cells_numI, numI_fold, Pt.av, Pt.cells, Rt.av, Rt.cells, eqPt]; rfl) ?_)
    refine hK9 _ ?_
    refine cond_ok _ (by simp (disch := first|omega|(simp only[ln];omega)); rfl) (fun h43 => ?_) (fun h43 => ?_)
    · simp at h43
    · try simp only [decide_eq_true_eq, decide_eq_false_iff_not] at h43
      refine AWP.skip ?_
      refine hK8 _ ?_
      refine AWP.seqk fun K10 hK10 => ?_
      refine AWP.seqk fun K11 hK11 => ?_
      refine AWP.region (AOPS.all (by simp (disch := first|omega|(simp only[ln];omega)) [idf_Wd', idf_numS, cells_numS, numS_fold, idf_numI, cells_numI, numI_fold, Pt.av, Pt.cells, Rt.av, Rt.cells]; rfl) ?_)
      refine hK11 _ ?_
      refine cond_ok (!(midB P Q)) (by simp (disch := first|omega|(simp only[ln];omega))) (fun h45 => ?_) (fun h45 => ?_)
      · try simp only [decide_eq_true_eq, decide_eq_false_iff_not] at h45
        refine AWP.seqk fun K12 hK12 => ?_
        refine AWP.region (AOPS.all (by simp (disch := first|omega|(simp only[ln];omega)) [idf_Wd', idf_numS, cells_numS, numS_fold, idf_numI, cells_numI, numI_fold, Pt.av, Pt.cells, Rt.av, Rt.cells]; rfl) ?_)
        refine hK12 _ ?_
        refine AWP.ret ?_
        exact hK _ _ _ _ trivial ((Fin.mk (by simp [aRes, aResL, aRes1, idf_Wd', idf_numS, cells_numS, numS_fold, idf_numI, cells_numI, numI_fold, Pt.av, Pt.cells, Rt.av, Rt.cells]; try rfl)))
      · try simp only [decide_eq_true_eq, decide_eq_false_iff_not] at h45
        have hk : midB P Q = true := by simpa using h45
        refine AWP.skip ?_
        refine hK10 _ ?_
        refine AWP.seqk fun K13 hK13 => ?_
        refine AWP.seqk fun K14 hK14 => ?_
        obtain ⟨hN, hMo⟩ : midB P Q = true ∧ (midP P Q).ok := ⟨hk, midP_ok P Q⟩
        have MM := mid_of hN
        have t1 := betweenI_fc P Q (midP P Q) Po Qo hMo MM.gp MM.gq MM.gm
        rw [MM.bt1] at t1
        have t2 := betweenI_fc P Q P Po Qo Po MM.gp MM.gq MM.gp
        rw [btI_self] at t2
        have t3 := orientI_fc P Q (midP P Q) Po Qo hMo
        rw [show orV P Q (midP P Q) = 0 by unfold orV; rw [MM.det0]; split <;> rfl] at t3
        have t4 := betweenI_fc P (midP P Q) Q Po hMo Qo MM.gp MM.gm MM.gq
        rw [MM.bt2 Po Qo] at t4
        have d1 := dist2_fc P (midP P Q) Po hMo
        rw [MM.d1] at d1
        have d2 := dist2_fc (midP P Q) Q hMo Qo
        rw [MM.d2] at d2
        have d3 := dist2_fc P Q Po Qo
        rw [d2F_good MM.gp MM.gq] at d3
        have hD := dD_pos MM.gp MM.gq
        have fb := fun h => four_back (N := dN P Q) hD h
        have o1 := told_ok (dN P Q) (4 * dD P Q)
        have mu := ratioMulI_fc (told (dN P Q) (4 * dD P Q)).1 Rt4 o1 Rt4_ok
        have w4' : FC Try.prog 20 [.int .i64 4] (.agg [.int .u64 Rt4.up.a, .int .u64 Rt4.up.b, .int .u64 Rt4.up.c, .int .u64 Rt4.up.d]) := wideOf4_fc 4 (by omega) (by omega) (by decide)
        have w1' : FC Try.prog 20 [.int .i64 1] (.agg [.int .u64 Rt4.down.a, .int .u64 Rt4.down.b, .int .u64 Rt4.down.c, .int .u64 Rt4.down.d]) := wideOf4_fc 1 (by omega) (by omega) (by decide)
        generalize midP P Q = M at *
        generalize told (dN P Q) (4 * dD P Q) = E at *
        generalize told (dN P Q) (dD P Q) = G at *
        generalize mulF E.1 Rt4 = F at *
        generalize Rt4 = W at *
        obtain ⟨e1, e2⟩ := E
        obtain ⟨g1, g2⟩ := G
        obtain ⟨f1, f2⟩ := F
        simp only [] at fb mu d1 d2 d3 o1
        refine AWP.draw 29 Try.checked.mixed (by kernel_rfl) (by simp) ?_
        simp only [List.take_succ_cons, List.take_zero, List.drop_succ_cons, List.drop_zero]
        refine DP.runFk 3 (by simp (disch := first|omega|(simp only[ln];omega)) [runDf.eq_def, runF1, runF2, stepF.eq_def, updo.eq_def, hupo.eq_def, opSto1.eq_def, List.take_succ_cons, List.take_zero, idf_Wd', idf_numS, cells_numS, numS_fold, idf_numI, cells_numI, numI_fold, Pt.av, Pt.cells, Rt.av, Rt.cells, eqPt, hN]; rfl) fun fs15 hfs15 => ?_
        replace hfs15 : fs15.length = 3 := hfs15.trans rfl
        simp only [List.drop_succ_cons, List.drop_zero]
        refine DP.fcall (t1) rfl rfl rfl hb31 (by simp (disch := first|omega|(simp only[ln];omega)) [idf_Wd', eqPt, hN, idf_numS, cells_numS, numS_fold, idf_numI, cells_numI, numI_fold, Pt.av, Pt.cells, Rt.av, Rt.cells]) (by simp (disch := first|omega|(simp only[ln];omega)) [eqPt, hN]) (by simp) ?_
        simp only [updo]
        refine DP.runFk 5 (by simp (disch := first|omega|(simp only[ln];omega)) [runDf.eq_def, runF1, runF2, stepF.eq_def, updo.eq_def, hupo.eq_def, opSto1.eq_def, List.take_succ_cons, List.take_zero, idf_Wd', idf_numS, cells_numS, numS_fold, idf_numI, cells_numI, numI_fold, Pt.av, Pt.cells, Rt.av, Rt.cells, eqPt, hN]; rfl) fun fs16 hfs16 => ?_
        replace hfs16 : fs16.length = 5 := hfs16.trans rfl
        simp only [List.drop_succ_cons, List.drop_zero]
        refine DP.fcall (t2) rfl rfl rfl hb31 (by simp (disch := first|omega|(simp only[ln];omega)) [idf_Wd', eqPt, hN, idf_numS, cells_numS, numS_fold, idf_numI, cells_numI, numI_fold, Pt.av, Pt.cells, Rt.av, Rt.cells]) (by simp (disch := first|omega|(simp only[ln];omega)) [eqPt, hN]) (by simp) ?_
        simp only [updo]
        refine DP.runFk 6 (by simp (disch := first|omega|(simp only[ln];omega)) [runDf.eq_def, runF1, runF2, stepF.eq_def, updo.eq_def, hupo.eq_def, opSto1.eq_def, List.take_succ_cons, List.take_zero, idf_Wd', idf_numS, cells_numS, numS_fold, idf_numI, cells_numI, numI_fold, Pt.av, Pt.cells, Rt.av, Rt.cells, eqPt, hN]; rfl) fun fs17 hfs17 => ?_
        replace hfs17 : fs17.length = 6 := hfs17.trans rfl
        simp only [List.drop_succ_cons, List.drop_zero]
        refine DP.fcall (t3) rfl rfl rfl hb32 (by simp (disch := first|omega|(simp only[ln];omega)) [idf_Wd', eqPt, hN, idf_numS, cells_numS, numS_fold, idf_numI, cells_numI, numI_fold, Pt.av, Pt.cells, Rt.av, Rt.cells]) (by simp (disch := first|omega|(simp only[ln];omega)) [eqPt, hN]) (by simp) ?_
        simp only [updo]
        refine DP.runFk 6 (by simp (disch := first|omega|(simp only[ln];omega)) [runDf.eq_def, runF1, runF2, stepF.eq_def, updo.eq_def, hupo.eq_def, opSto1.eq_def, List.take_succ_cons, List.take_zero, idf_Wd', idf_numS, cells_numS, numS_fold, idf_numI, cells_numI, numI_fold, Pt.av, Pt.cells, Rt.av, Rt.cells, eqPt, hN]; rfl) fun fs18 hfs18 => ?_
        replace hfs18 : fs18.length = 6 := hfs18.trans rfl
        simp only [List.drop_succ_cons, List.drop_zero]
        refine DP.fcall (t4) rfl rfl rfl hb31 (by simp (disch := first|omega|(simp only[ln];omega)) [idf_Wd', eqPt, hN, idf_numS, cells_numS, numS_fold, idf_numI, cells_numI, numI_fold, Pt.av, Pt.cells, Rt.av, Rt.cells]) (by simp (disch := first|omega|(simp only[ln];omega)) [eqPt, hN]) (by simp) ?_
        simp only [updo]
        refine DP.runFk 5 (by simp (disch := first|omega|(simp only[ln];omega)) [runDf.eq_def, runF1, runF2, stepF.eq_def, updo.eq_def, hupo.eq_def, opSto1.eq_def, List.take_succ_cons, List.take_zero, idf_Wd', idf_numS, cells_numS, numS_fold, idf_numI, cells_numI, numI_fold, Pt.av, Pt.cells, Rt.av, Rt.cells, eqPt, hN]; rfl) fun fs19 hfs19 => ?_
        replace hfs19 : fs19.length = 5 := hfs19.trans rfl
        simp only [List.drop_succ_cons, List.drop_zero]
        refine DQ.runF (m := 29) (by simp only [List.length_append, List.length_cons, List.length_nil, hfs15, hfs16, hfs17, hfs18, hfs19]; omega) _ _ _ (by kernel_rfl) rfl (by simp (disch := first|omega|(simp only[ln];omega)) [runDf.eq_def, runF1, runF2, stepF.eq_def, updo.eq_def, hupo.eq_def, opSto1.eq_def, idf_Wd', idf_numS, cells_numS, numS_fold, idf_numI, cells_numI, numI_fold, Pt.av, Pt.cells, Rt.av, Rt.cells, eqPt, hN]; rfl) ?_
        refine hK14 _ ?_
        refine cond_ok _ (by simp (disch := first|omega|(simp only[ln];omega)); rfl) (fun h74 => ?_) (fun h74 => ?_)
        · simp at h74
        · try simp only [decide_eq_true_eq, decide_eq_false_iff_not] at h74
          refine AWP.skip ?_
          refine hK13 _ ?_
          refine AWP.seqk fun K20 hK20 => ?_
          refine AWP.region ?_
          refine AOPS.runk 2 (by simp (disch := first|omega|(simp only[ln];omega)) [List.take_succ_cons, List.take_zero, idf_Wd', idf_numS, cells_numS, numS_fold, idf_numI, cells_numI, numI_fold, Pt.av, Pt.cells, Rt.av, Rt.cells]; rfl) ?_
          simp only [List.drop_succ_cons, List.drop_zero]
          refine AOPS.fcall (d1) rfl rfl rfl hb33 (by simp (disch := first|omega|(simp only[ln];omega)) [idf_Wd', idf_numS, cells_numS, numS_fold, idf_numI, cells_numI, numI_fold, Pt.av, Pt.cells, Rt.av, Rt.cells]) (by simp (disch := first|omega|(simp only[ln];omega))) (by simp) ?_
          simp only [puts_some, updo]
          refine AOPS.all (by simp (disch := first|omega|(simp only[ln];omega)) [idf_Wd', idf_numS, cells_numS, numS_fold, idf_numI, cells_numI, numI_fold, Pt.av, Pt.cells, Rt.av, Rt.cells]; rfl) ?_
          refine hK20 _ ?_
          refine AWP.seqk fun K21 hK21 => ?_
          refine AWP.region ?_
          refine AOPS.runk 2 (by simp (disch := first|omega|(simp only[ln];omega)) [List.take_succ_cons, List.take_zero, idf_Wd', idf_numS, cells_numS, numS_fold, idf_numI, cells_numI, numI_fold, Pt.av, Pt.cells, Rt.av, Rt.cells]; rfl) ?_
          simp only [List.drop_succ_cons, List.drop_zero]
          refine AOPS.fcall (d2) rfl rfl rfl hb33 (by simp (disch := first|omega|(simp only[ln];omega)) [idf_Wd', idf_numS, cells_numS, numS_fold, idf_numI, cells_numI, numI_fold, Pt.av, Pt.cells, Rt.av, Rt.cells]) (by simp (disch := first|omega|(simp only[ln];omega))) (by simp) ?_
          simp only [puts_some, updo]
          refine AOPS.all (by simp (disch := first|omega|(simp only[ln];omega)) [idf_Wd', idf_numS, cells_numS, numS_fold, idf_numI, cells_numI, numI_fold, Pt.av, Pt.cells, Rt.av, Rt.cells]; rfl) ?_
          refine hK21 _ ?_
          refine AWP.seqk fun K22 hK22 => ?_
          refine AWP.region ?_
          refine AOPS.runk 2 (by simp (disch := first|omega|(simp only[ln];omega)) [List.take_succ_cons, List.take_zero, idf_Wd', idf_numS, cells_numS, numS_fold, idf_numI, cells_numI, numI_fold, Pt.av, Pt.cells, Rt.av, Rt.cells]; rfl) ?_
          simp only [List.drop_succ_cons, List.drop_zero]
          refine AOPS.fcall (d3) rfl rfl rfl hb33 (by simp (disch := first|omega|(simp only[ln];omega)) [idf_Wd', idf_numS, cells_numS, numS_fold, idf_numI, cells_numI, numI_fold, Pt.av, Pt.cells, Rt.av, Rt.cells]) (by simp (disch := first|omega|(simp only[ln];omega))) (by simp) ?_
          simp only [puts_some, updo]
          refine AOPS.all (by simp (disch := first|omega|(simp only[ln];omega)) [idf_Wd', idf_numS, cells_numS, numS_fold, idf_numI, cells_numI, numI_fold, Pt.av, Pt.cells, Rt.av, Rt.cells]; rfl) ?_
          refine hK22 _ ?_
          refine AWP.seqk fun K23 hK23 => ?_
          refine AWP.seqk fun K24 hK24 => ?_
          refine AWP.region (AOPS.all (by simp (disch := first|omega|(simp only[ln];omega)) [idf_Wd', idf_numS, cells_numS, numS_fold, idf_numI, cells_numI, numI_fold, Pt.av, Pt.cells, Rt.av, Rt.cells, eqRt]; rfl) ?_)
          refine hK24 _ ?_
          refine cond_ok _ (by simp (disch := first|omega|(simp only[ln];omega)); rfl) (fun h100 => ?_) (fun h100 => ?_)
          · simp at h100
          · try simp only [decide_eq_true_eq, decide_eq_false_iff_not] at h100
            refine AWP.skip ?_
            refine hK23 _ ?_
            refine AWP.seqk fun K25 hK25 => ?_
            refine AWP.old fun hold => ?_
            refine AWP.draw 9 Try.checked.mixed (by kernel_rfl) (by simp) ?_
            simp only [List.take_succ_cons, List.take_zero, List.drop_succ_cons, List.drop_zero]
            refine DP.runFk 1 (by simp (disch := first|omega|(simp only[ln];omega)) [runDf.eq_def, runF1, runF2, stepF.eq_def, updo.eq_def, hupo.eq_def, opSto1.eq_def, List.take_succ_cons, List.take_zero, idf_Wd', idf_numS, cells_numS, numS_fold, idf_numI, cells_numI, numI_fold, Pt.av, Pt.cells, Rt.av, Rt.cells]; rfl) fun fs26 hfs26 => ?_
            replace hfs26 : fs26.length = 1 := hfs26.trans rfl
            simp only [List.drop_succ_cons, List.drop_zero]
            refine DP.fcall (w4') rfl rfl rfl hb20 (by simp (disch := first|omega|(simp only[ln];omega)) [idf_Wd', idf_numS, cells_numS, numS_fold, idf_numI, cells_numI, numI_fold, Pt.av, Pt.cells, Rt.av, Rt.cells]) (by simp (disch := first|omega|(simp only[ln];omega))) (by simp) ?_
            simp only [updo]
            refine DP.fcall (w1') rfl rfl rfl hb20 (by simp (disch := first|omega|(simp only[ln];omega)) [idf_Wd', idf_numS, cells_numS, numS_fold, idf_numI, cells_numI, numI_fold, Pt.av, Pt.cells, Rt.av, Rt.cells]) (by simp (disch := first|omega|(simp only[ln];omega))) (by simp) ?_
            simp only [updo]
            refine DP.runFk 1 (by simp (disch := first|omega|(simp only[ln];omega)) [runDf.eq_def, runF1, runF2, stepF.eq_def, updo.eq_def, hupo.eq_def, opSto1.eq_def, List.take_succ_cons, List.take_zero, idf_Wd', idf_numS, cells_numS, numS_fold, idf_numI, cells_numI, numI_fold, Pt.av, Pt.cells, Rt.av, Rt.cells]; rfl) fun fs27 hfs27 => ?_
            replace hfs27 : fs27.length = 1 := hfs27.trans rfl
            simp only [List.drop_succ_cons, List.drop_zero]
            refine DP.fcall (mu) rfl rfl rfl hb34 (by simp (disch := first|omega|(simp only[ln];omega)) [idf_Wd', idf_numS, cells_numS, numS_fold, idf_numI, cells_numI, numI_fold, Pt.av, Pt.cells, Rt.av, Rt.cells]) (by simp (disch := first|omega|(simp only[ln];omega))) (by simp) ?_
            simp only [updo]
            refine DP.runFk 2 (by simp (disch := first|omega|(simp only[ln];omega)) [runDf.eq_def, runF1, runF2, stepF.eq_def, updo.eq_def, hupo.eq_def, opSto1.eq_def, List.take_succ_cons, List.take_zero, idf_Wd', idf_numS, cells_numS, numS_fold, idf_numI, cells_numI, numI_fold, Pt.av, Pt.cells, Rt.av, Rt.cells]; rfl) fun fs28 hfs28 => ?_
            replace hfs28 : fs28.length = 2 := hfs28.trans rfl
            simp only [List.drop_succ_cons, List.drop_zero]
            refine DP.runF1q (by simp (disch := first|omega|(simp only[ln];omega)) [runDf.eq_def, runF1, runF2, stepF.eq_def, updo.eq_def, hupo.eq_def, opSto1.eq_def, idf_Wd', idf_numS, cells_numS, numS_fold, idf_numI, cells_numI, numI_fold, Pt.av, Pt.cells, Rt.av, Rt.cells]; rfl) fun fq29 hfq29 => ?_
            simp [qids, asksB, Op.operands, topId] at hfq29
            simp only [updo]
            refine DP.runFk 1 (by simp (disch := first|omega|(simp only[ln];omega)) [runDf.eq_def, runF1, runF2, stepF.eq_def, updo.eq_def, hupo.eq_def, opSto1.eq_def, List.take_succ_cons, List.take_zero, idf_Wd', idf_numS, cells_numS, numS_fold, idf_numI, cells_numI, numI_fold, Pt.av, Pt.cells, Rt.av, Rt.cells]; rfl) fun fs30 hfs30 => ?_
            replace hfs30 : fs30.length = 1 := hfs30.trans rfl
            simp only [List.drop_succ_cons, List.drop_zero]
            refine DQ.sto1 (m := 9) [7] _ (by simp (disch := first|omega|(simp only[ln];omega)) [runDf.eq_def, runF1, runF2, stepF.eq_def, updo.eq_def, hupo.eq_def, opSto1.eq_def, idf_Wd', idf_numS, cells_numS, numS_fold, idf_numI, cells_numI, numI_fold, Pt.av, Pt.cells, Rt.av, Rt.cells]; rfl) rfl (by simp only [List.length_append, List.length_cons, List.length_nil, hfs26, hfs27, hfs28, hfs30]; omega) (by kernel_rfl) (by intro k f hk hex; simp only [List.mem_cons, List.not_mem_nil, or_false] at hex; rcases hex with rfl <;> (simp [List.getElem?_append, hfs26, hfs27, hfs28, hfs30] at hk; subst hk; refine ⟨?_, by first | omega | (simp; done) | (simp; omega)⟩; simp [qids, asksB, Op.operands, Call.operands, topId, numS, numI, Wd, hfq29]; try omega)) ?_
            try simp only []
            refine DQ.asg1 _ rfl rfl ?_
            simp only [updo]
            refine hK25 _ ?_
            refine AWP.seqk fun K31 hK31 => ?_
            cases e2
            · refine AWP.region (AOPS.all (by simp (disch := first|omega|(simp only[ln];omega)) [idf_Wd', idf_numS, cells_numS, numS_fold, idf_numI, cells_numI, numI_fold, Pt.av, Pt.cells, Rt.av, Rt.cells, eqRt]; rfl) ?_)
              refine hK31 _ ?_
              refine AWP.ret ?_
              exact hK _ _ _ _ trivial ((Fin.mk (by simp [aRes, aResL, aRes1, idf_Wd', idf_numS, cells_numS, numS_fold, idf_numI, cells_numI, numI_fold, Pt.av, Pt.cells, Rt.av, Rt.cells]; try rfl)))
            · have fb' := fb rfl
              simp only [Prod.mk.injEq] at fb'
              obtain ⟨rfl, rfl⟩ := fb'
              cases f2
              · refine AWP.region (AOPS.all (by simp (disch := first|omega|(simp only[ln];omega)) [idf_Wd', idf_numS, cells_numS, numS_fold, idf_numI, cells_numI, numI_fold, Pt.av, Pt.cells, Rt.av, Rt.cells, eqRt]; rfl) ?_)
                refine hK31 _ ?_
                refine AWP.ret ?_
                exact hK _ _ _ _ trivial ((Fin.mk (by simp [aRes, aResL, aRes1, idf_Wd', idf_numS, cells_numS, numS_fold, idf_numI, cells_numI, numI_fold, Pt.av, Pt.cells, Rt.av, Rt.cells]; try rfl)))
              · refine AWP.region (AOPS.all (by simp (disch := first|omega|(simp only[ln];omega)) [idf_Wd', idf_numS, cells_numS, numS_fold, idf_numI, cells_numI, numI_fold, Pt.av, Pt.cells, Rt.av, Rt.cells, eqRt]; rfl) ?_)
                refine hK31 _ ?_
                refine AWP.ret ?_
                exact hK _ _ _ _ trivial ((Fin.mk (by simp [aRes, aResL, aRes1, idf_Wd', idf_numS, cells_numS, numS_fold, idf_numI, cells_numI, numI_fold, Pt.av, Pt.cells, Rt.av, Rt.cells]; try rfl)))

end Go.Proofs.Ytmaebeknmiomnaa
