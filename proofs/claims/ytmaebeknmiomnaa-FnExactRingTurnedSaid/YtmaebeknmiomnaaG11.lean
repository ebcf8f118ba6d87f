/- Walks: FnExactRingTurned, walked. -/
import Derived.Test.YtmaebeknmiomnaaG10

namespace Go.Proofs.Ytmaebeknmiomnaa
open Go Go.RowKit
set_option linter.unusedSimpArgs false
set_option linter.unusedVariables false
set_option maxRecDepth 100000
attribute [local simp] List.getElem?_cons_zero List.getElem?_cons_succ List.getElem?_toArray runOps stepOp.eq_def agd.eq_def dstOk.eq_def opVal.eq_def opNew.eq_def opSto.eq_def ev.eq_def cv.eq_def puts_some puts_none upd_ap lst.eq_def aBin.eq_def aUn.eq_def aBi_str aBi_isl aBi_osl aBi_nsl aBi_max aBi_min aBi_max3 aConv.eq_def aLd.eq_def aLoad.eq_def aField.eq_def aFld.eq_def aIdx_isl aIdx_osl aSlc_isl aSlc_osl aSlc_str aSlc_nsl bnd.eq_def evs_nil evs_cons aBuild.eq_def aFill splice.eq_def cells_agg cells_int cells_bool cells_str cells_nil cells_nsl cells_isl cells_osl cells_ptr cells_ip cells_fn cells_Wd one_int one_bool one_str one_nil one_nsl one_isl one_osl one_ptr one_ip one_fn one_Wd aSets hupd_eq hupd_ne wrap_i64s wrap_u64s wrap_u32s wrap_u8s wd_getD wd_set wd_len wd_replicate wd_one wd_fold fz_osl hupd_same aSix.eq_def aEqS.eq_def aEqB_bool aEqB_nsl aEqB_nil
attribute [local simp] szT3 byT3 agT3 unT3 zoT3 szT55 byT55 agT55 elT55 unT55 zoT55 szT57 byT57 agT57 flT57 fdT57_0 zoT57 szT60 byT60 agT60 elT60 unT60 zoT60 szT62 byT62 agT62 flT62 fdT62_0 zoT62

theorem toRing_len (r : List Sp) : ∀ row ∈ r.map Sp.cells, row.length = 2 := by intro row h; obtain ⟨p, _, rfl⟩ := List.mem_map.1 h; rfl
theorem mkR_take (f : Nat → List AV) (n : Nat) : List.take n (mkR f n) = mkR f n := List.take_of_length_le (by rw [mkR_len]; omega)
theorem markRing_nil2 (k : Int) (hk0 : 0 ≤ k) (hk1 : k ≤ 1000) : FC Try.prog 74 [.agg [.nsl], .int .i64 k] (.int .i64 k) := (markRing_nil k hk0 hk1).args fun w β b vs h => by
  obtain ⟨v, r, e, ⟨us, e2, ⟨v1, r1, e1, h1, h2⟩⟩, h3⟩ := h
  exact ⟨v, r, e, ⟨us, e2, ⟨v1, r1, e1, ⟨none, 0, 2, [], h1, by simp, rfl, by intro e vs h; simp at h⟩, h2⟩⟩, h3⟩
theorem heldRing_nil2 (k : Int) (hk0 : 0 ≤ k) (hk1 : k ≤ 1000) : FC Try.prog 75 [.agg [.nsl], .int .i64 k] (.int .i64 k) := (heldRing_nil k hk0 hk1).args fun w β b vs h => by
  obtain ⟨v, r, e, ⟨us, e2, ⟨v1, r1, e1, h1, h2⟩⟩, h3⟩ := h
  exact ⟨v, r, e, ⟨us, e2, ⟨v1, r1, e1, ⟨none, 0, 2, [], h1, by simp, rfl, by intro e vs h; simp at h⟩, h2⟩⟩, h3⟩
theorem eqRing_nil2 : FC Try.prog 39 [.agg [.nsl], .agg [.nsl]] (.bool true) := (eqRing_fc [] (by simp)).args fun w β b vs h => by
  obtain ⟨v, r, e, ⟨us, e2, ⟨v1, r1, e1, h1, h2⟩⟩, ⟨v', r', e', ⟨us', e2', ⟨v1', r1', e1', h1', h2'⟩⟩, h3⟩⟩ := h
  exact ⟨v, r, e, ⟨us, e2, ⟨v1, r1, e1, ⟨none, 0, 2, [], h1, by simp, rfl, by intro e vs h; simp at h⟩, h2⟩⟩, ⟨v', r', e', ⟨us', e2', ⟨v1', r1', e1', ⟨none, 0, 2, [], h1', by simp, rfl, by intro e vs h; simp at h⟩, h2'⟩⟩, h3⟩⟩

set_option maxHeartbeats 4000000 in
theorem fnExactRingTurned_yes (r : List Sp) (hl : r.length ≤ 9223372036854775807) (hz : rgF r = 0) : FC Try.prog 14 [.agg [.isl (r.map Sp.cells)]] (.bool true) := by
  refine FC.body Try.func14 rfl (by simp [idfL, idf, idfLL_iff, Sp.av, Sp.cells, Sg.av, Sg.cells]) (by simp [idfL, idf, idfLL_iff, idf_Wd', Sp.av, Sp.cells, Sg.av, Sg.cells]) 69 rfl fun nx K hK => ?_
  refine AWP.seqk fun K1 hK1 => ?_
  refine AWP.region (AOPS.all (by simp (disch := first|omega|(simp only[ln];omega)) [idf_Wd', Sp.av, Sp.cells, Sg.av, Sg.cells]; rfl) ?_)
  refine hK1 _ ?_
  refine AWP.seqk fun K2 hK2 => ?_
  refine AWP.region (AOPS.all (by simp (disch := first|omega|(simp only[ln];omega)) [idf_Wd', Sp.av, Sp.cells, Sg.av, Sg.cells]; rfl) ?_)
  refine hK2 _ ?_
  refine AWP.seqk fun K3 hK3 => ?_
  refine AWP.region ?_
  refine AOPS.runk 2 (by simp (disch := first|omega|(simp only[ln];omega)) [List.take_succ_cons, List.take_zero, idf_Wd', Sp.av, Sp.cells, Sg.av, Sg.cells]; rfl) ?_
  simp only [List.drop_succ_cons, List.drop_zero]
  refine AOPS.fcall (szRing_fc r 1048576 (by omega) (by omega) hl) rfl rfl rfl hb35 (by simp (disch := first|omega|(simp only[ln];omega)) [idf_Wd', Sp.av, Sp.cells, Sg.av, Sg.cells]) (by simp (disch := first|omega|(simp only[ln];omega))) (by simp) ?_
  simp only [puts_some, updo]
  refine AOPS.all (by simp (disch := first|omega|(simp only[ln];omega)) [idf_Wd', Sp.av, Sp.cells, Sg.av, Sg.cells]; rfl) ?_
  refine hK3 _ ?_
  refine AWP.seqk fun K4 hK4 => ?_
  refine AWP.seqk fun K5 hK5 => ?_
  refine AWP.region (AOPS.all (by simp (disch := first|omega|(simp only[ln];omega)) [idf_Wd', Sp.av, Sp.cells, Sg.av, Sg.cells]; rfl) ?_)
  refine hK5 _ ?_
  refine cond_ok (decide (szN r.length 1048576 < 0)) (by simp (disch := first|omega|(simp only[ln];omega))) (fun h15 => ?_) (fun h15 => ?_)
  · try simp only [decide_eq_true_eq, decide_eq_false_iff_not] at h15
    refine AWP.seqk fun K6 hK6 => ?_
    refine AWP.region (AOPS.all (by simp (disch := first|omega|(simp only[ln];omega)) [idf_Wd', Sp.av, Sp.cells, Sg.av, Sg.cells]; rfl) ?_)
    refine hK6 _ ?_
    refine AWP.ret ?_
    exact hK _ _ _ _ trivial ((Fin.mk (by simp [aRes, aResL, aRes1, idf_Wd', Sp.av, Sp.cells, Sg.av, Sg.cells]; try rfl)))
  · try simp only [decide_eq_true_eq, decide_eq_false_iff_not] at h15
    obtain ⟨k1, _⟩ := szN_le h15
    have k2 : r.length ≤ 1048576 := by omega
    have k3 : r.length ≤ 1099511627776 := by omega
    obtain ⟨n, hrl⟩ : ∃ n, r.length = n := ⟨_, rfl⟩
    have htl : (turnR r).length = n := by rw [turnR_len]; exact hrl
    have tkR : List.take n (List.map Sp.cells r) = List.map Sp.cells r := List.take_of_length_le (by rw [List.length_map]; omega)
    have tkT : List.take n (List.map Sp.cells (turnR r)) = List.map Sp.cells (turnR r) := List.take_of_length_le (by rw [List.length_map]; omega)
    have own0 := fun nx => toRing_own r k2 nx
    have own1' := fun nx => ringTurned_own r k3 hz nx
    rw [hrl] at own0 own1'
    have neg1 : decide (1 + 2 * (n : Int) < 0) = false := by simp; omega
    refine AWP.skip ?_
    refine hK4 _ ?_
    refine AWP.seqk fun K7 hK7 => ?_
    refine AWP.region ?_
    refine AOPS.runk 1 (by simp (disch := first|omega|(simp only[ln];omega)) [List.take_succ_cons, List.take_zero, idf_Wd', Sp.av, Sp.cells, Sg.av, Sg.cells]; rfl) ?_
    simp only [List.drop_succ_cons, List.drop_zero]
    refine AOPS.fcall (toRing_fc r k2) rfl rfl rfl hb37 (by simp (disch := first|omega|(simp only[ln];omega)) [idf_Wd', Sp.av, Sp.cells, Sg.av, Sg.cells]) (by simp (disch := first|omega|(simp only[ln];omega))) (by simp) ?_
    simp only [puts_some, updo]
    refine AOPS.fcall (ringTurnedS_fc r k3 hz) rfl rfl rfl hb72 (by simp (disch := first|omega|(simp only[ln];omega)) [idf_Wd', Sp.av, Sp.cells, Sg.av, Sg.cells]) (by simp (disch := first|omega|(simp only[ln];omega))) (by simp) ?_
    simp only [puts_some, updo]
    refine AOPS.all (by simp (disch := first|omega|(simp only[ln];omega)) [idf_Wd', Sp.av, Sp.cells, Sg.av, Sg.cells]; rfl) ?_
    refine hK7 _ ?_
    refine AWP.seqk fun K8 hK8 => ?_
    refine AWP.region ?_
    refine AOPS.runk 1 (by simp (disch := first|omega|(simp only[ln];omega)) [List.take_succ_cons, List.take_zero, idf_Wd', Sp.av, Sp.cells, Sg.av, Sg.cells]; rfl) ?_
    simp only [List.drop_succ_cons, List.drop_zero]
    refine AOPS.ocallL 4 (own0 _) rfl rfl rfl hb37 (by simp (disch := first|omega|(simp only[ln];omega)) [lv, idf_Wd', lv_sp, lv_sg, lv_m2, lv_int, lv_bool, lv_nsl, List.map_map, List.length_map, hrl, htl, tkR, tkT, mkR_len, mkR_take, Sp.av, Sp.cells, Sg.av, Sg.cells]) (⟨fun _ h => by simp [nwr, nwrL]; try exact h, by simp [nwr, nwrL, Sp.cells, Sg.cells]⟩) (by simp (disch := first|omega|(simp only[ln];omega))) (by simp) ?_
    intro ix nx2 nx2a nx2b
    simp only [] at nx2a nx2b
    simp only [puts_some, updo]
    refine AOPS.all (by simp (disch := first|omega|(simp only[ln];omega)) [idf_Wd', Sp.av, Sp.cells, Sg.av, Sg.cells]; rfl) ?_
    refine hK8 _ ?_
    refine AWP.seqk fun K9 hK9 => ?_
    refine AWP.region ?_
    refine AOPS.runk 1 (by simp (disch := first|omega|(simp only[ln];omega)) [List.take_succ_cons, List.take_zero, idf_Wd', Sp.av, Sp.cells, Sg.av, Sg.cells]; rfl) ?_
    simp only [List.drop_succ_cons, List.drop_zero]
    refine AOPS.ocallL 4 (own1' _) rfl rfl rfl hb73 (by simp (disch := first|omega|(simp only[ln];omega)) [lv, idf_Wd', lv_sp, lv_sg, lv_m2, lv_int, lv_bool, lv_nsl, List.map_map, List.length_map, hrl, htl, tkR, tkT, mkR_len, mkR_take, Sp.av, Sp.cells, Sg.av, Sg.cells]) (⟨fun _ h => by simp [nwr, nwrL]; try exact h, by simp [nwr, nwrL, Sp.cells, Sg.cells]⟩) (by simp (disch := first|omega|(simp only[ln];omega))) (by simp) ?_
    intro ig nx3 nx3a nx3b
    simp only [] at nx3a nx3b
    simp only [puts_some, updo]
    refine AOPS.all (by simp (disch := first|omega|(simp only[ln];omega)) [idf_Wd', Sp.av, Sp.cells, Sg.av, Sg.cells]; rfl) ?_
    refine hK9 _ ?_
    refine AWP.seqk fun K10 hK10 => ?_
    refine AWP.seqk fun K11 hK11 => ?_
    refine AWP.region ?_
    refine AOPS.runk 2 (by simp (disch := first|omega|(simp only[ln];omega)) [List.take_succ_cons, List.take_zero, idf_Wd', Sp.av, Sp.cells, Sg.av, Sg.cells, hrl, htl]; rfl) ?_
    simp only [List.drop_succ_cons, List.drop_zero]
    refine AOPS.lcall 4 (eqRing_fc (turnR r) (by omega)) rfl rfl rfl hb39 (by simp (disch := first|omega|(simp only[ln];omega)) [lv, idf_Wd', lv_sp, lv_sg, lv_m2, lv_int, lv_bool, lv_nsl, List.map_map, List.length_map, hrl, htl, tkR, tkT, mkR_len, mkR_take, hrl, htl, Sp.av, Sp.cells, Sg.av, Sg.cells]) (by simp [atm, atmL]) (by simp (disch := first|omega|(simp only[ln];omega)) [hrl, htl]) (by simp) ?_
    simp only [puts_some, updo]
    refine AOPS.all (by simp (disch := first|omega|(simp only[ln];omega)) [idf_Wd', Sp.av, Sp.cells, Sg.av, Sg.cells, hrl, htl]; rfl) ?_
    refine hK11 _ ?_
    refine cond_ok _ (by simp (disch := first|omega|(simp only[ln];omega)); rfl) (fun h26 => ?_) (fun h26 => ?_)
    · simp at h26
    · try simp only [decide_eq_true_eq, decide_eq_false_iff_not] at h26
      refine AWP.skip ?_
      refine hK10 _ ?_
      refine AWP.seqk fun K12 hK12 => ?_
      refine AWP.seqk fun K13 hK13 => ?_
      refine AWP.drawT 3 Try.checked.mixed (by kernel_rfl) (by kernel_rfl) ?_
      simp only [List.take_succ_cons, List.take_zero, List.drop_succ_cons, List.drop_zero]
      refine DP.runFk 2 (by simp (disch := first|omega|(simp only[ln];omega)) [runDf.eq_def, runF1, runF2, stepF.eq_def, updo.eq_def, hupo.eq_def, opSto1.eq_def, List.take_succ_cons, List.take_zero, idf_Wd', Sp.av, Sp.cells, Sg.av, Sg.cells, hrl, htl]; rfl) fun fs14 hfs14 => ?_
      replace hfs14 : fs14.length = 2 := hfs14.trans rfl
      simp only [List.drop_succ_cons, List.drop_zero]
      refine DP.fcall (toRing_fc r k2) rfl rfl rfl hb37 (by simp (disch := first|omega|(simp only[ln];omega)) [idf_Wd', hrl, htl, Sp.av, Sp.cells, Sg.av, Sg.cells]) (by simp (disch := first|omega|(simp only[ln];omega)) [hrl, htl]) (by simp) ?_
      simp only [updo]
      simp only [DP]
      refine AOPS.lcall 4 (eqRing_fc r hl) rfl rfl rfl hb39 (by simp (disch := first|omega|(simp only[ln];omega)) [lv, idf_Wd', lv_sp, lv_sg, lv_m2, lv_int, lv_bool, lv_nsl, List.map_map, List.length_map, hrl, htl, tkR, tkT, mkR_len, mkR_take, hrl, htl, Sp.av, Sp.cells, Sg.av, Sg.cells]) (by simp [atm, atmL]) (by simp (disch := first|omega|(simp only[ln];omega)) [hrl, htl]) (by simp) ?_
      simp only [puts_some, updo]
      refine AOPS.all (by simp (disch := first|omega|(simp only[ln];omega)) [idf_Wd', Sp.av, Sp.cells, Sg.av, Sg.cells, hrl, htl]; rfl) ?_
      refine hK13 _ ?_
      refine cond_ok _ (by simp (disch := first|omega|(simp only[ln];omega)); rfl) (fun h31 => ?_) (fun h31 => ?_)
      · simp at h31
      · try simp only [decide_eq_true_eq, decide_eq_false_iff_not] at h31
        refine AWP.skip ?_
        refine hK12 _ ?_
        refine AWP.seqk fun K15 hK15 => ?_
        refine AWP.region (AOPS.all (by simp (disch := first|omega|(simp only[ln];omega)) [idf_Wd', Sp.av, Sp.cells, Sg.av, Sg.cells]; rfl) ?_)
        refine hK15 _ ?_
        refine AWP.seqk fun K16 hK16 => ?_
        have J16 : ∀ s : St, (∃ a4 a6 ig : Nat, (nx < a4 ∧ a4 < a6 ∧ ig ≠ nx ∧ ig ≠ a4 ∧ ig ≠ a6) ∧ s.env 1 = .ptr nx 0 0 ∧ s.env 4 = .ptr a4 0 0 ∧ s.env 6 = .ptr a6 0 0 ∧ s.env 7 = .int .i64 (1 + 2 * (n : Int)) ∧ s.heap nx = some (1, [[.isl (r.map Sp.cells)]]) ∧ nx < s.nx ∧ s.heap a4 = some (1, [[.isl ((turnR r).map Sp.cells)]]) ∧ a4 < s.nx ∧ s.heap a6 = some (1, [[.osl ig 0 n]]) ∧ a6 < s.nx ∧ s.heap ig = some (2, (turnR r).map Sp.cells) ∧ ig < s.nx ∧ s.nt = 69) → K16 s := by
          rintro ⟨e, H, mm, nt⟩ ⟨a4, a6, ig, sep, g1, g4, g6, g7, Hr, xr, Hw, xw, Hg, xg, HG, xG, rfl⟩
          simp only [] at g1 g4 g6 g7 Hr xr Hw xw Hg xg HG xG
          refine hK16 _ ?_
          refine AWP.seqk fun K17 hK17 => ?_
          refine AWP.seqk fun K18 hK18 => ?_
          refine AWP.region ?_
          refine AOPS.runk 5 (by simp (disch := first|omega|(simp only[ln];omega)) [List.take_succ_cons, List.take_zero, idf_Wd', Sp.av, Sp.cells, Sg.av, Sg.cells, g1, g4, g6, g7, Hr, Hw, Hg, HG, neg1]; rfl) ?_
          simp only [List.drop_succ_cons, List.drop_zero]
          refine AOPS.lcall 4 (eqRing_fc (turnR r) (by omega)) rfl rfl rfl hb39 (by simp (disch := first|omega|(simp only[ln];omega)) [lv, idf_Wd', lv_sp, lv_sg, lv_m2, lv_int, lv_bool, lv_nsl, List.map_map, List.length_map, hrl, htl, tkR, tkT, mkR_len, mkR_take, g1, g4, g6, g7, Hr, Hw, Hg, HG, neg1, Sp.av, Sp.cells, Sg.av, Sg.cells]) (by simp [atm, atmL]) (by simp (disch := first|omega|(simp only[ln];omega)) [g1, g4, g6, g7, Hr, Hw, Hg, HG, neg1]) (by simp) ?_
          simp only [puts_some, updo]
          refine AOPS.all (by simp (disch := first|omega|(simp only[ln];omega)) [idf_Wd', Sp.av, Sp.cells, Sg.av, Sg.cells, g1, g4, g6, g7, Hr, Hw, Hg, HG, neg1]; rfl) ?_
          refine hK18 _ ?_
          refine cond_ok _ (by simp (disch := first|omega|(simp only[ln];omega)); rfl) (fun h42 => ?_) (fun h42 => ?_)
          · simp at h42
          · try simp only [decide_eq_true_eq, decide_eq_false_iff_not] at h42
            refine AWP.skip ?_
            refine hK17 _ ?_
            refine AWP.seqk fun K19 hK19 => ?_
            refine AWP.region (AOPS.all (by simp (disch := first|omega|(simp only[ln];omega)) [idf_Wd', Sp.av, Sp.cells, Sg.av, Sg.cells]; rfl) ?_)
            refine hK19 _ ?_
            refine AWP.seqk fun K20 hK20 => ?_
            have J20 : ∀ s : St, (∃ a4 a6 ig : Nat, (nx < a4 ∧ a4 < a6 ∧ ig ≠ nx ∧ ig ≠ a4 ∧ ig ≠ a6) ∧ s.env 1 = .ptr nx 0 0 ∧ s.env 4 = .ptr a4 0 0 ∧ s.env 6 = .ptr a6 0 0 ∧ s.env 8 = .int .i64 (1 + 2 * (n : Int)) ∧ s.heap nx = some (1, [[.isl (r.map Sp.cells)]]) ∧ nx < s.nx ∧ s.heap a4 = some (1, [[.isl ((turnR r).map Sp.cells)]]) ∧ a4 < s.nx ∧ s.heap a6 = some (1, [[.osl ig 0 n]]) ∧ a6 < s.nx ∧ s.heap ig = some (2, mkR (m2 1) n) ∧ ig < s.nx ∧ s.nt = 69) → K20 s := by
              clear g1 g4 g6 g7 Hr xr Hw xw Hg xg HG xG sep
              rintro ⟨e, H, mm, nt⟩ ⟨a4, a6, ig, sep, g1, g4, g6, g8, Hr, xr, Hw, xw, Hg, xg, HG, xG, rfl⟩
              simp only [] at g1 g4 g6 g8 Hr xr Hw xw Hg xg HG xG
              refine hK20 _ ?_
              refine AWP.seqk fun K21 hK21 => ?_
              refine AWP.region (AOPS.all (by simp (disch := first|omega|(simp only[ln];omega)) [idf_Wd', Sp.av, Sp.cells, Sg.av, Sg.cells]; rfl) ?_)
              refine hK21 _ ?_
              refine AWP.seqk fun K22 hK22 => ?_
              refine AWP.region ?_
              refine AOPS.runk 2 (by simp (disch := first|omega|(simp only[ln];omega)) [List.take_succ_cons, List.take_zero, idf_Wd', Sp.av, Sp.cells, Sg.av, Sg.cells, g1, g4, g6, g8, Hr, Hw, Hg, HG]; rfl) ?_
              simp only [List.drop_succ_cons, List.drop_zero]
              refine AOPS.lcall 4 (heldRing_fc n 1 (by omega) (by omega) (by omega)) rfl rfl rfl hb75 (by simp (disch := first|omega|(simp only[ln];omega)) [lv, idf_Wd', lv_sp, lv_sg, lv_m2, lv_int, lv_bool, lv_nsl, List.map_map, List.length_map, hrl, htl, tkR, tkT, mkR_len, mkR_take, g1, g4, g6, g8, Hr, Hw, Hg, HG, Sp.av, Sp.cells, Sg.av, Sg.cells]) (by simp [atm, atmL]) (by simp (disch := first|omega|(simp only[ln];omega)) [g1, g4, g6, g8, Hr, Hw, Hg, HG]) (by simp) ?_
              simp only [puts_some, updo]
              refine AOPS.all (by simp (disch := first|omega|(simp only[ln];omega)) [idf_Wd', Sp.av, Sp.cells, Sg.av, Sg.cells, g1, g4, g6, g8, Hr, Hw, Hg, HG]; rfl) ?_
              refine hK22 _ ?_
              refine AWP.seqk fun K23 hK23 => ?_
              refine AWP.seqk fun K24 hK24 => ?_
              refine AWP.region (AOPS.all (by simp (disch := first|omega|(simp only[ln];omega)) [idf_Wd', Sp.av, Sp.cells, Sg.av, Sg.cells, neg1]; rfl) ?_)
              refine hK24 _ ?_
              refine cond_ok (false) (by simp (disch := first|omega|(simp only[ln];omega)) [neg1]) (fun h50 => ?_) (fun h50 => ?_)
              · simp at h50
              · try simp only [decide_eq_true_eq, decide_eq_false_iff_not] at h50
                refine AWP.skip ?_
                refine hK23 _ ?_
                refine AWP.seqk fun K25 hK25 => ?_
                refine AWP.seqk fun K26 hK26 => ?_
                refine AWP.region (AOPS.all (by simp (disch := first|omega|(simp only[ln];omega)) [idf_Wd', Sp.av, Sp.cells, Sg.av, Sg.cells, g8]; rfl) ?_)
                refine hK26 _ ?_
                refine cond_ok _ (by simp (disch := first|omega|(simp only[ln];omega)); rfl) (fun h53 => ?_) (fun h53 => ?_)
                · simp at h53
                · try simp only [decide_eq_true_eq, decide_eq_false_iff_not] at h53
                  refine AWP.skip ?_
                  refine hK25 _ ?_
                  refine AWP.seqk fun K27 hK27 => ?_
                  obtain ⟨sp1, sp2, sp3, sp4, sp5⟩ := sep
                  refine AWP.region ?_
                  refine AOPS.runk 1 (by simp (disch := first|omega|(simp only[ln];omega)) [List.take_succ_cons, List.take_zero, idf_Wd', Sp.av, Sp.cells, Sg.av, Sg.cells, g1, Hr]; rfl) ?_
                  simp only [List.drop_succ_cons, List.drop_zero]
                  refine AOPS.fcall (toRing_fc r k2) rfl rfl rfl hb37 (by simp (disch := first|omega|(simp only[ln];omega)) [idf_Wd', g1, Hr, Sp.av, Sp.cells, Sg.av, Sg.cells]) (by simp (disch := first|omega|(simp only[ln];omega)) [g1, Hr]) (by simp) ?_
                  simp only [puts_some, updo]
                  refine AOPS.ocallL 4 (own1' _) rfl rfl rfl hb73 (by simp (disch := first|omega|(simp only[ln];omega)) [lv, idf_Wd', lv_sp, lv_sg, lv_m2, lv_int, lv_bool, lv_nsl, List.map_map, List.length_map, hrl, htl, tkR, tkT, mkR_len, mkR_take, g1, Hr, Sp.av, Sp.cells, Sg.av, Sg.cells]) (⟨fun _ h => by simp [nwr, nwrL]; try exact h, by simp [nwr, nwrL, Sp.cells, Sg.cells]⟩) (by simp (disch := first|omega|(simp only[ln];omega)) [g1, Hr]) (by simp) ?_
                  intro ih nx6 nx6a nx6b
                  simp only [] at nx6a nx6b
                  simp only [puts_some, updo]
                  refine AOPS.all (by simp (disch := first|omega|(simp only[ln];omega)) [idf_Wd', Sp.av, Sp.cells, Sg.av, Sg.cells, g1, Hr]; rfl) ?_
                  refine hK27 _ ?_
                  refine AWP.seqk fun K28 hK28 => ?_
                  refine AWP.seqk fun K29 hK29 => ?_
                  refine AWP.region ?_
                  refine AOPS.runk 2 (by simp (disch := first|omega|(simp only[ln];omega)) [List.take_succ_cons, List.take_zero, idf_Wd', Sp.av, Sp.cells, Sg.av, Sg.cells, g4, Hw]; rfl) ?_
                  simp only [List.drop_succ_cons, List.drop_zero]
                  refine AOPS.lcall 4 (eqRing_fc (turnR r) (by omega)) rfl rfl rfl hb39 (by simp (disch := first|omega|(simp only[ln];omega)) [lv, idf_Wd', lv_sp, lv_sg, lv_m2, lv_int, lv_bool, lv_nsl, List.map_map, List.length_map, hrl, htl, tkR, tkT, mkR_len, mkR_take, g4, Hw, Sp.av, Sp.cells, Sg.av, Sg.cells]) (by simp [atm, atmL]) (by simp (disch := first|omega|(simp only[ln];omega)) [g4, Hw]) (by simp) ?_
                  simp only [puts_some, updo]
                  refine AOPS.all (by simp (disch := first|omega|(simp only[ln];omega)) [idf_Wd', Sp.av, Sp.cells, Sg.av, Sg.cells, g4, Hw]; rfl) ?_
                  refine hK29 _ ?_
                  refine cond_ok _ (by simp (disch := first|omega|(simp only[ln];omega)); rfl) (fun h60 => ?_) (fun h60 => ?_)
                  · simp at h60
                  · try simp only [decide_eq_true_eq, decide_eq_false_iff_not] at h60
                    refine AWP.skip ?_
                    refine hK28 _ ?_
                    refine AWP.seqk fun K30 hK30 => ?_
                    refine AWP.region (AOPS.all (by simp (disch := first|omega|(simp only[ln];omega)) [idf_Wd', Sp.av, Sp.cells, Sg.av, Sg.cells]; rfl) ?_)
                    refine hK30 _ ?_
                    refine AWP.seqk fun K31 hK31 => ?_
                    refine AWP.region ?_
                    refine AOPS.runk 2 (by simp (disch := first|omega|(simp only[ln];omega)) [List.take_succ_cons, List.take_zero, idf_Wd', Sp.av, Sp.cells, Sg.av, Sg.cells, g6, Hg, HG]; rfl) ?_
                    simp only [List.drop_succ_cons, List.drop_zero]
                    refine AOPS.lcall 4 (heldRing_fc n 1 (by omega) (by omega) (by omega)) rfl rfl rfl hb75 (by simp (disch := first|omega|(simp only[ln];omega)) [lv, idf_Wd', lv_sp, lv_sg, lv_m2, lv_int, lv_bool, lv_nsl, List.map_map, List.length_map, hrl, htl, tkR, tkT, mkR_len, mkR_take, g6, Hg, HG, Sp.av, Sp.cells, Sg.av, Sg.cells]) (by simp [atm, atmL]) (by simp (disch := first|omega|(simp only[ln];omega)) [g6, Hg, HG]) (by simp) ?_
                    simp only [puts_some, updo]
                    refine AOPS.all (by simp (disch := first|omega|(simp only[ln];omega)) [idf_Wd', Sp.av, Sp.cells, Sg.av, Sg.cells, g6, Hg, HG]; rfl) ?_
                    refine hK31 _ ?_
                    refine AWP.seqk fun K32 hK32 => ?_
                    refine AWP.seqk fun K33 hK33 => ?_
                    refine AWP.region (AOPS.all (by simp (disch := first|omega|(simp only[ln];omega)) [idf_Wd', Sp.av, Sp.cells, Sg.av, Sg.cells, neg1]; rfl) ?_)
                    refine hK33 _ ?_
                    refine cond_ok (false) (by simp (disch := first|omega|(simp only[ln];omega)) [neg1]) (fun h65 => ?_) (fun h65 => ?_)
                    · simp at h65
                    · try simp only [decide_eq_true_eq, decide_eq_false_iff_not] at h65
                      refine AWP.skip ?_
                      refine hK32 _ ?_
                      refine AWP.seqk fun K34 hK34 => ?_
                      refine AWP.seqk fun K35 hK35 => ?_
                      refine AWP.region (AOPS.all (by simp (disch := first|omega|(simp only[ln];omega)) [idf_Wd', Sp.av, Sp.cells, Sg.av, Sg.cells, g8]; rfl) ?_)
                      refine hK35 _ ?_
                      refine cond_ok _ (by simp (disch := first|omega|(simp only[ln];omega)); rfl) (fun h68 => ?_) (fun h68 => ?_)
                      · simp at h68
                      · try simp only [decide_eq_true_eq, decide_eq_false_iff_not] at h68
                        refine AWP.skip ?_
                        refine hK34 _ ?_
                        refine AWP.seqk fun K36 hK36 => ?_
                        refine AWP.region (AOPS.all (by simp (disch := first|omega|(simp only[ln];omega)) [idf_Wd', Sp.av, Sp.cells, Sg.av, Sg.cells]; rfl) ?_)
                        refine hK36 _ ?_
                        refine AWP.ret ?_
                        exact hK _ _ _ _ trivial ((Fin.mk (by simp [aRes, aResL, aRes1, idf_Wd', Sp.av, Sp.cells, Sg.av, Sg.cells]; try rfl)))
            obtain ⟨sp1, sp2, sp3, sp4, sp5⟩ := sep
            refine AWP.region ?_
            refine AOPS.runk 2 (by simp (disch := first|omega|(simp only[ln];omega)) [List.take_succ_cons, List.take_zero, idf_Wd', Sp.av, Sp.cells, Sg.av, Sg.cells, g1, g4, g6, g7, Hr, Hw, Hg, HG]; rfl) ?_
            simp only [List.drop_succ_cons, List.drop_zero]
            refine AOPS.acall (markRing_ac n ig ((turnR r).map Sp.cells) 1 _ _ (by simp (disch := omega) [HG]) (by simp; omega) (by rw [List.length_map]; exact htl) (toRing_len (turnR r)) (by omega) (by omega) (by omega)) rfl rfl rfl hb74 (by simp (disch := first|omega|(simp only[ln];omega)) [idf_Wd', g1, g4, g6, g7, Hr, Hw, Hg, HG, Sp.av, Sp.cells, Sg.av, Sg.cells]) (by simp (disch := first|omega|(simp only[ln];omega)) [g1, g4, g6, g7, Hr, Hw, Hg, HG]) (by simp) ?_
            rintro _ H3 nx5 ⟨rfl, hM2, hfr2, hle2⟩
            simp only [] at hfr2 hle2
            simp only [puts_some, updo]
            refine AOPS.all (by simp (disch := first|omega|(simp only[ln];omega)) [idf_Wd', Sp.av, Sp.cells, Sg.av, Sg.cells, g1, g4, g6, g7, Hr, Hw, Hg, HG]; rfl) ?_
            refine J20 _ ?_
            exact ⟨a4, a6, ig, ⟨sp1, sp2, sp3, sp4, sp5⟩, by simp [g1], by simp [g4], by simp [g6], by simp, (hfr2 _ (by omega) (by omega)).trans (by simp (disch := omega) [Hr]), by first | omega | (simp; omega), (hfr2 _ (by omega) (by omega)).trans (by simp (disch := omega) [Hw]), by first | omega | (simp; omega), (hfr2 _ (by omega) (by omega)).trans (by simp (disch := omega) [Hg]), by first | omega | (simp; omega), hM2, by first | omega | (simp; omega), rfl⟩
        refine AWP.region ?_
        refine AOPS.runk 2 (by simp (disch := first|omega|(simp only[ln];omega)) [List.take_succ_cons, List.take_zero, idf_Wd', Sp.av, Sp.cells, Sg.av, Sg.cells]; rfl) ?_
        simp only [List.drop_succ_cons, List.drop_zero]
        refine AOPS.acall (markRing_ac n ix (r.map Sp.cells) 1 _ _ (by simp (disch := omega)) (by simp; omega) (by rw [List.length_map]; exact hrl) (toRing_len r) (by omega) (by omega) (by omega)) rfl rfl rfl hb74 (by simp (disch := first|omega|(simp only[ln];omega)) [idf_Wd', Sp.av, Sp.cells, Sg.av, Sg.cells]) (by simp (disch := first|omega|(simp only[ln];omega))) (by simp) ?_
        rintro _ H2 nx4 ⟨rfl, hM, hfr, hle⟩
        simp only [] at hfr hle
        simp only [puts_some, updo]
        refine AOPS.all (by simp (disch := first|omega|(simp only[ln];omega)) [idf_Wd', Sp.av, Sp.cells, Sg.av, Sg.cells]; rfl) ?_
        refine J16 _ ?_
        exact ⟨nx + 1, nx3, ig, ⟨by omega, by omega, by omega, by omega, by omega⟩, by simp, by simp, by simp, by simp, (hfr _ (by omega) (by omega)).trans (by simp (disch := omega)), by first | omega | (simp; omega), (hfr _ (by omega) (by omega)).trans (by simp (disch := omega)), by first | omega | (simp; omega), (hfr _ (by omega) (by omega)).trans (by simp (disch := omega)), by first | omega | (simp; omega), (hfr _ (by omega) (by omega)).trans (by simp (disch := omega)), by first | omega | (simp; omega), rfl⟩

set_option maxHeartbeats 4000000 in
theorem fnExactRingTurned_no (r : List Sp) (hl : r.length ≤ 9223372036854775807) (hz : ¬ rgF r = 0) : FC Try.prog 14 [.agg [.isl (r.map Sp.cells)]] (.bool true) := by
  refine FC.body Try.func14 rfl (by simp [idfL, idf, idfLL_iff, Sp.av, Sp.cells, Sg.av, Sg.cells]) (by simp [idfL, idf, idfLL_iff, idf_Wd', Sp.av, Sp.cells, Sg.av, Sg.cells]) 69 rfl fun nx K hK => ?_
  refine AWP.seqk fun K1 hK1 => ?_
  refine AWP.region (AOPS.all (by simp (disch := first|omega|(simp only[ln];omega)) [idf_Wd', Sp.av, Sp.cells, Sg.av, Sg.cells]; rfl) ?_)
  refine hK1 _ ?_
  refine AWP.seqk fun K2 hK2 => ?_
  refine AWP.region (AOPS.all (by simp (disch := first|omega|(simp only[ln];omega)) [idf_Wd', Sp.av, Sp.cells, Sg.av, Sg.cells]; rfl) ?_)
  refine hK2 _ ?_
  refine AWP.seqk fun K3 hK3 => ?_
  refine AWP.region ?_
  refine AOPS.runk 2 (by simp (disch := first|omega|(simp only[ln];omega)) [List.take_succ_cons, List.take_zero, idf_Wd', Sp.av, Sp.cells, Sg.av, Sg.cells]; rfl) ?_
  simp only [List.drop_succ_cons, List.drop_zero]
  refine AOPS.fcall (szRing_fc r 1048576 (by omega) (by omega) hl) rfl rfl rfl hb35 (by simp (disch := first|omega|(simp only[ln];omega)) [idf_Wd', Sp.av, Sp.cells, Sg.av, Sg.cells]) (by simp (disch := first|omega|(simp only[ln];omega))) (by simp) ?_
  simp only [puts_some, updo]
  refine AOPS.all (by simp (disch := first|omega|(simp only[ln];omega)) [idf_Wd', Sp.av, Sp.cells, Sg.av, Sg.cells]; rfl) ?_
  refine hK3 _ ?_
  refine AWP.seqk fun K4 hK4 => ?_
  refine AWP.seqk fun K5 hK5 => ?_
  refine AWP.region (AOPS.all (by simp (disch := first|omega|(simp only[ln];omega)) [idf_Wd', Sp.av, Sp.cells, Sg.av, Sg.cells]; rfl) ?_)
  refine hK5 _ ?_
  refine cond_ok (decide (szN r.length 1048576 < 0)) (by simp (disch := first|omega|(simp only[ln];omega))) (fun h15 => ?_) (fun h15 => ?_)
  · try simp only [decide_eq_true_eq, decide_eq_false_iff_not] at h15
    refine AWP.seqk fun K6 hK6 => ?_
    refine AWP.region (AOPS.all (by simp (disch := first|omega|(simp only[ln];omega)) [idf_Wd', Sp.av, Sp.cells, Sg.av, Sg.cells]; rfl) ?_)
    refine hK6 _ ?_
    refine AWP.ret ?_
    exact hK _ _ _ _ trivial ((Fin.mk (by simp [aRes, aResL, aRes1, idf_Wd', Sp.av, Sp.cells, Sg.av, Sg.cells]; try rfl)))
  · try simp only [decide_eq_true_eq, decide_eq_false_iff_not] at h15
    obtain ⟨k1, _⟩ := szN_le h15
    have k2 : r.length ≤ 1048576 := by omega
    have k3 : r.length ≤ 1099511627776 := by omega
    obtain ⟨n, hrl⟩ : ∃ n, r.length = n := ⟨_, rfl⟩
    have htl : n = n := rfl
    have tkR : List.take n (List.map Sp.cells r) = List.map Sp.cells r := List.take_of_length_le (by rw [List.length_map]; omega)
    have own0 := fun nx => toRing_own r k2 nx
    rw [hrl] at own0
    have neg1 : decide (1 + 2 * (n : Int) < 0) = false := by simp; omega
    refine AWP.skip ?_
    refine hK4 _ ?_
    refine AWP.seqk fun K7 hK7 => ?_
    refine AWP.region ?_
    refine AOPS.runk 1 (by simp (disch := first|omega|(simp only[ln];omega)) [List.take_succ_cons, List.take_zero, idf_Wd', Sp.av, Sp.cells, Sg.av, Sg.cells]; rfl) ?_
    simp only [List.drop_succ_cons, List.drop_zero]
    refine AOPS.fcall (toRing_fc r k2) rfl rfl rfl hb37 (by simp (disch := first|omega|(simp only[ln];omega)) [idf_Wd', Sp.av, Sp.cells, Sg.av, Sg.cells]) (by simp (disch := first|omega|(simp only[ln];omega))) (by simp) ?_
    simp only [puts_some, updo]
    refine AOPS.fcall (ringTurnedS_no r k3 hz) rfl rfl rfl hb72 (by simp (disch := first|omega|(simp only[ln];omega)) [idf_Wd', Sp.av, Sp.cells, Sg.av, Sg.cells]) (by simp (disch := first|omega|(simp only[ln];omega))) (by simp) ?_
    simp only [puts_some, updo]
    refine AOPS.all (by simp (disch := first|omega|(simp only[ln];omega)) [idf_Wd', Sp.av, Sp.cells, Sg.av, Sg.cells]; rfl) ?_
    refine hK7 _ ?_
    refine AWP.seqk fun K8 hK8 => ?_
    refine AWP.region ?_
    refine AOPS.runk 1 (by simp (disch := first|omega|(simp only[ln];omega)) [List.take_succ_cons, List.take_zero, idf_Wd', Sp.av, Sp.cells, Sg.av, Sg.cells]; rfl) ?_
    simp only [List.drop_succ_cons, List.drop_zero]
    refine AOPS.ocallL 4 (own0 _) rfl rfl rfl hb37 (by simp (disch := first|omega|(simp only[ln];omega)) [lv, idf_Wd', lv_sp, lv_sg, lv_m2, lv_int, lv_bool, lv_nsl, List.map_map, List.length_map, hrl, tkR, Sp.av, Sp.cells, Sg.av, Sg.cells]) (⟨fun _ h => by simp [nwr, nwrL]; try exact h, by simp [nwr, nwrL, Sp.cells, Sg.cells]⟩) (by simp (disch := first|omega|(simp only[ln];omega))) (by simp) ?_
    intro ix nx2 nx2a nx2b
    simp only [] at nx2a nx2b
    simp only [puts_some, updo]
    refine AOPS.all (by simp (disch := first|omega|(simp only[ln];omega)) [idf_Wd', Sp.av, Sp.cells, Sg.av, Sg.cells]; rfl) ?_
    refine hK8 _ ?_
    refine AWP.seqk fun K9 hK9 => ?_
    refine AWP.region ?_
    refine AOPS.runk 1 (by simp (disch := first|omega|(simp only[ln];omega)) [List.take_succ_cons, List.take_zero, idf_Wd', Sp.av, Sp.cells, Sg.av, Sg.cells]; rfl) ?_
    simp only [List.drop_succ_cons, List.drop_zero]
    refine AOPS.lcall 4 (ringTurned_no r k3 hz) rfl rfl rfl hb73 (by simp (disch := first|omega|(simp only[ln];omega)) [lv, idf_Wd', lv_sp, lv_sg, lv_m2, lv_int, lv_bool, lv_nsl, List.map_map, List.length_map, hrl, tkR, Sp.av, Sp.cells, Sg.av, Sg.cells]) (by simp [atm, atmL]) (by simp (disch := first|omega|(simp only[ln];omega))) (by simp) ?_
    simp only [puts_some, updo]
    refine AOPS.all (by simp (disch := first|omega|(simp only[ln];omega)) [idf_Wd', Sp.av, Sp.cells, Sg.av, Sg.cells]; rfl) ?_
    refine hK9 _ ?_
    refine AWP.seqk fun K10 hK10 => ?_
    refine AWP.seqk fun K11 hK11 => ?_
    refine AWP.region ?_
    refine AOPS.runk 2 (by simp (disch := first|omega|(simp only[ln];omega)) [List.take_succ_cons, List.take_zero, idf_Wd', Sp.av, Sp.cells, Sg.av, Sg.cells]; rfl) ?_
    simp only [List.drop_succ_cons, List.drop_zero]
    refine AOPS.fcall (eqRing_nil2) rfl rfl rfl hb39 (by simp (disch := first|omega|(simp only[ln];omega)) [idf_Wd', Sp.av, Sp.cells, Sg.av, Sg.cells]) (by simp (disch := first|omega|(simp only[ln];omega))) (by simp) ?_
    simp only [puts_some, updo]
    refine AOPS.all (by simp (disch := first|omega|(simp only[ln];omega)) [idf_Wd', Sp.av, Sp.cells, Sg.av, Sg.cells]; rfl) ?_
    refine hK11 _ ?_
    refine cond_ok _ (by simp (disch := first|omega|(simp only[ln];omega)); rfl) (fun h26 => ?_) (fun h26 => ?_)
    · simp at h26
    · try simp only [decide_eq_true_eq, decide_eq_false_iff_not] at h26
      refine AWP.skip ?_
      refine hK10 _ ?_
      refine AWP.seqk fun K12 hK12 => ?_
      refine AWP.seqk fun K13 hK13 => ?_
      refine AWP.drawT 3 Try.checked.mixed (by kernel_rfl) (by kernel_rfl) ?_
      simp only [List.take_succ_cons, List.take_zero, List.drop_succ_cons, List.drop_zero]
      refine DP.runFk 2 (by simp (disch := first|omega|(simp only[ln];omega)) [runDf.eq_def, runF1, runF2, stepF.eq_def, updo.eq_def, hupo.eq_def, opSto1.eq_def, List.take_succ_cons, List.take_zero, idf_Wd', Sp.av, Sp.cells, Sg.av, Sg.cells, hrl]; rfl) fun fs14 hfs14 => ?_
      replace hfs14 : fs14.length = 2 := hfs14.trans rfl
      simp only [List.drop_succ_cons, List.drop_zero]
      refine DP.fcall (toRing_fc r k2) rfl rfl rfl hb37 (by simp (disch := first|omega|(simp only[ln];omega)) [idf_Wd', hrl, Sp.av, Sp.cells, Sg.av, Sg.cells]) (by simp (disch := first|omega|(simp only[ln];omega)) [hrl]) (by simp) ?_
      simp only [updo]
      simp only [DP]
      refine AOPS.lcall 4 (eqRing_fc r hl) rfl rfl rfl hb39 (by simp (disch := first|omega|(simp only[ln];omega)) [lv, idf_Wd', lv_sp, lv_sg, lv_m2, lv_int, lv_bool, lv_nsl, List.map_map, List.length_map, hrl, tkR, hrl, Sp.av, Sp.cells, Sg.av, Sg.cells]) (by simp [atm, atmL]) (by simp (disch := first|omega|(simp only[ln];omega)) [hrl]) (by simp) ?_
      simp only [puts_some, updo]
      refine AOPS.all (by simp (disch := first|omega|(simp only[ln];omega)) [idf_Wd', Sp.av, Sp.cells, Sg.av, Sg.cells, hrl]; rfl) ?_
      refine hK13 _ ?_
      refine cond_ok _ (by simp (disch := first|omega|(simp only[ln];omega)); rfl) (fun h31 => ?_) (fun h31 => ?_)
      · simp at h31
      · try simp only [decide_eq_true_eq, decide_eq_false_iff_not] at h31
        refine AWP.skip ?_
        refine hK12 _ ?_
        refine AWP.seqk fun K15 hK15 => ?_
        refine AWP.region (AOPS.all (by simp (disch := first|omega|(simp only[ln];omega)) [idf_Wd', Sp.av, Sp.cells, Sg.av, Sg.cells]; rfl) ?_)
        refine hK15 _ ?_
        refine AWP.seqk fun K16 hK16 => ?_
        have J16 : ∀ s : St, (∃ a4 a6 : Nat, (nx < a4 ∧ a4 < a6) ∧ s.env 1 = .ptr nx 0 0 ∧ s.env 4 = .ptr a4 0 0 ∧ s.env 6 = .ptr a6 0 0 ∧ s.env 7 = .int .i64 (1 + 2 * (n : Int)) ∧ s.heap nx = some (1, [[.isl (r.map Sp.cells)]]) ∧ nx < s.nx ∧ s.heap a4 = some (1, [[.nsl]]) ∧ a4 < s.nx ∧ s.heap a6 = some (1, [[.nsl]]) ∧ a6 < s.nx ∧ s.nt = 69) → K16 s := by
          rintro ⟨e, H, mm, nt⟩ ⟨a4, a6, sep, g1, g4, g6, g7, Hr, xr, Hw, xw, Hg, xg, rfl⟩
          simp only [] at g1 g4 g6 g7 Hr xr Hw xw Hg xg
          refine hK16 _ ?_
          refine AWP.seqk fun K17 hK17 => ?_
          refine AWP.seqk fun K18 hK18 => ?_
          obtain ⟨sp1, sp2⟩ := sep
          refine AWP.region ?_
          refine AOPS.runk 5 (by simp (disch := first|omega|(simp only[ln];omega)) [List.take_succ_cons, List.take_zero, idf_Wd', Sp.av, Sp.cells, Sg.av, Sg.cells, g1, g4, g6, g7, Hr, Hw, Hg, neg1]; rfl) ?_
          simp only [List.drop_succ_cons, List.drop_zero]
          refine AOPS.fcall (eqRing_nil2) rfl rfl rfl hb39 (by simp (disch := first|omega|(simp only[ln];omega)) [idf_Wd', g1, g4, g6, g7, Hr, Hw, Hg, neg1, Sp.av, Sp.cells, Sg.av, Sg.cells]) (by simp (disch := first|omega|(simp only[ln];omega)) [g1, g4, g6, g7, Hr, Hw, Hg, neg1]) (by simp) ?_
          simp only [puts_some, updo]
          refine AOPS.all (by simp (disch := first|omega|(simp only[ln];omega)) [idf_Wd', Sp.av, Sp.cells, Sg.av, Sg.cells, g1, g4, g6, g7, Hr, Hw, Hg, neg1]; rfl) ?_
          refine hK18 _ ?_
          refine cond_ok _ (by simp (disch := first|omega|(simp only[ln];omega)); rfl) (fun h42 => ?_) (fun h42 => ?_)
          · simp at h42
          · try simp only [decide_eq_true_eq, decide_eq_false_iff_not] at h42
            refine AWP.skip ?_
            refine hK17 _ ?_
            refine AWP.seqk fun K19 hK19 => ?_
            refine AWP.region (AOPS.all (by simp (disch := first|omega|(simp only[ln];omega)) [idf_Wd', Sp.av, Sp.cells, Sg.av, Sg.cells]; rfl) ?_)
            refine hK19 _ ?_
            refine AWP.seqk fun K20 hK20 => ?_
            refine AWP.region ?_
            refine AOPS.runk 2 (by simp (disch := first|omega|(simp only[ln];omega)) [List.take_succ_cons, List.take_zero, idf_Wd', Sp.av, Sp.cells, Sg.av, Sg.cells, g1, g4, g6, g7, Hr, Hw, Hg]; rfl) ?_
            simp only [List.drop_succ_cons, List.drop_zero]
            refine AOPS.fcall (markRing_nil2 1 (by omega) (by omega)) rfl rfl rfl hb74 (by simp (disch := first|omega|(simp only[ln];omega)) [idf_Wd', g1, g4, g6, g7, Hr, Hw, Hg, Sp.av, Sp.cells, Sg.av, Sg.cells]) (by simp (disch := first|omega|(simp only[ln];omega)) [g1, g4, g6, g7, Hr, Hw, Hg]) (by simp) ?_
            simp only [puts_some, updo]
            refine AOPS.all (by simp (disch := first|omega|(simp only[ln];omega)) [idf_Wd', Sp.av, Sp.cells, Sg.av, Sg.cells, g1, g4, g6, g7, Hr, Hw, Hg]; rfl) ?_
            refine hK20 _ ?_
            refine AWP.seqk fun K21 hK21 => ?_
            refine AWP.region (AOPS.all (by simp (disch := first|omega|(simp only[ln];omega)) [idf_Wd', Sp.av, Sp.cells, Sg.av, Sg.cells]; rfl) ?_)
            refine hK21 _ ?_
            refine AWP.seqk fun K22 hK22 => ?_
            refine AWP.region ?_
            refine AOPS.runk 2 (by simp (disch := first|omega|(simp only[ln];omega)) [List.take_succ_cons, List.take_zero, idf_Wd', Sp.av, Sp.cells, Sg.av, Sg.cells, g1, g4, g6, g7, Hr, Hw, Hg]; rfl) ?_
            simp only [List.drop_succ_cons, List.drop_zero]
            refine AOPS.fcall (heldRing_nil2 1 (by omega) (by omega)) rfl rfl rfl hb75 (by simp (disch := first|omega|(simp only[ln];omega)) [idf_Wd', g1, g4, g6, g7, Hr, Hw, Hg, Sp.av, Sp.cells, Sg.av, Sg.cells]) (by simp (disch := first|omega|(simp only[ln];omega)) [g1, g4, g6, g7, Hr, Hw, Hg]) (by simp) ?_
            simp only [puts_some, updo]
            refine AOPS.all (by simp (disch := first|omega|(simp only[ln];omega)) [idf_Wd', Sp.av, Sp.cells, Sg.av, Sg.cells, g1, g4, g6, g7, Hr, Hw, Hg]; rfl) ?_
            refine hK22 _ ?_
            refine AWP.seqk fun K23 hK23 => ?_
            refine AWP.seqk fun K24 hK24 => ?_
            refine AWP.region (AOPS.all (by simp (disch := first|omega|(simp only[ln];omega)) [idf_Wd', Sp.av, Sp.cells, Sg.av, Sg.cells]; rfl) ?_)
            refine hK24 _ ?_
            refine cond_ok _ (by simp (disch := first|omega|(simp only[ln];omega)); rfl) (fun h50 => ?_) (fun h50 => ?_)
            · simp at h50
            · try simp only [decide_eq_true_eq, decide_eq_false_iff_not] at h50
              refine AWP.skip ?_
              refine hK23 _ ?_
              refine AWP.seqk fun K25 hK25 => ?_
              refine AWP.seqk fun K26 hK26 => ?_
              refine AWP.region (AOPS.all (by simp (disch := first|omega|(simp only[ln];omega)) [idf_Wd', Sp.av, Sp.cells, Sg.av, Sg.cells]; rfl) ?_)
              refine hK26 _ ?_
              refine cond_ok _ (by simp (disch := first|omega|(simp only[ln];omega)); rfl) (fun h53 => ?_) (fun h53 => ?_)
              · simp at h53
              · try simp only [decide_eq_true_eq, decide_eq_false_iff_not] at h53
                refine AWP.skip ?_
                refine hK25 _ ?_
                refine AWP.seqk fun K27 hK27 => ?_
                refine AWP.region ?_
                refine AOPS.runk 1 (by simp (disch := first|omega|(simp only[ln];omega)) [List.take_succ_cons, List.take_zero, idf_Wd', Sp.av, Sp.cells, Sg.av, Sg.cells, g1, Hr]; rfl) ?_
                simp only [List.drop_succ_cons, List.drop_zero]
                refine AOPS.fcall (toRing_fc r k2) rfl rfl rfl hb37 (by simp (disch := first|omega|(simp only[ln];omega)) [idf_Wd', g1, Hr, Sp.av, Sp.cells, Sg.av, Sg.cells]) (by simp (disch := first|omega|(simp only[ln];omega)) [g1, Hr]) (by simp) ?_
                simp only [puts_some, updo]
                refine AOPS.fcall (ringTurned_no r k3 hz) rfl rfl rfl hb73 (by simp (disch := first|omega|(simp only[ln];omega)) [idf_Wd', g1, Hr, Sp.av, Sp.cells, Sg.av, Sg.cells]) (by simp (disch := first|omega|(simp only[ln];omega)) [g1, Hr]) (by simp) ?_
                simp only [puts_some, updo]
                refine AOPS.all (by simp (disch := first|omega|(simp only[ln];omega)) [idf_Wd', Sp.av, Sp.cells, Sg.av, Sg.cells, g1, Hr]; rfl) ?_
                refine hK27 _ ?_
                refine AWP.seqk fun K28 hK28 => ?_
                refine AWP.seqk fun K29 hK29 => ?_
                refine AWP.region ?_
                refine AOPS.runk 2 (by simp (disch := first|omega|(simp only[ln];omega)) [List.take_succ_cons, List.take_zero, idf_Wd', Sp.av, Sp.cells, Sg.av, Sg.cells, g4, Hw]; rfl) ?_
                simp only [List.drop_succ_cons, List.drop_zero]
                refine AOPS.fcall (eqRing_nil2) rfl rfl rfl hb39 (by simp (disch := first|omega|(simp only[ln];omega)) [idf_Wd', g4, Hw, Sp.av, Sp.cells, Sg.av, Sg.cells]) (by simp (disch := first|omega|(simp only[ln];omega)) [g4, Hw]) (by simp) ?_
                simp only [puts_some, updo]
                refine AOPS.all (by simp (disch := first|omega|(simp only[ln];omega)) [idf_Wd', Sp.av, Sp.cells, Sg.av, Sg.cells, g4, Hw]; rfl) ?_
                refine hK29 _ ?_
                refine cond_ok _ (by simp (disch := first|omega|(simp only[ln];omega)); rfl) (fun h60 => ?_) (fun h60 => ?_)
                · simp at h60
                · try simp only [decide_eq_true_eq, decide_eq_false_iff_not] at h60
                  refine AWP.skip ?_
                  refine hK28 _ ?_
                  refine AWP.seqk fun K30 hK30 => ?_
                  refine AWP.region (AOPS.all (by simp (disch := first|omega|(simp only[ln];omega)) [idf_Wd', Sp.av, Sp.cells, Sg.av, Sg.cells]; rfl) ?_)
                  refine hK30 _ ?_
                  refine AWP.seqk fun K31 hK31 => ?_
                  refine AWP.region ?_
                  refine AOPS.runk 2 (by simp (disch := first|omega|(simp only[ln];omega)) [List.take_succ_cons, List.take_zero, idf_Wd', Sp.av, Sp.cells, Sg.av, Sg.cells, g6, Hg]; rfl) ?_
                  simp only [List.drop_succ_cons, List.drop_zero]
                  refine AOPS.fcall (heldRing_nil2 1 (by omega) (by omega)) rfl rfl rfl hb75 (by simp (disch := first|omega|(simp only[ln];omega)) [idf_Wd', g6, Hg, Sp.av, Sp.cells, Sg.av, Sg.cells]) (by simp (disch := first|omega|(simp only[ln];omega)) [g6, Hg]) (by simp) ?_
                  simp only [puts_some, updo]
                  refine AOPS.all (by simp (disch := first|omega|(simp only[ln];omega)) [idf_Wd', Sp.av, Sp.cells, Sg.av, Sg.cells, g6, Hg]; rfl) ?_
                  refine hK31 _ ?_
                  refine AWP.seqk fun K32 hK32 => ?_
                  refine AWP.seqk fun K33 hK33 => ?_
                  refine AWP.region (AOPS.all (by simp (disch := first|omega|(simp only[ln];omega)) [idf_Wd', Sp.av, Sp.cells, Sg.av, Sg.cells]; rfl) ?_)
                  refine hK33 _ ?_
                  refine cond_ok _ (by simp (disch := first|omega|(simp only[ln];omega)); rfl) (fun h65 => ?_) (fun h65 => ?_)
                  · simp at h65
                  · try simp only [decide_eq_true_eq, decide_eq_false_iff_not] at h65
                    refine AWP.skip ?_
                    refine hK32 _ ?_
                    refine AWP.seqk fun K34 hK34 => ?_
                    refine AWP.seqk fun K35 hK35 => ?_
                    refine AWP.region (AOPS.all (by simp (disch := first|omega|(simp only[ln];omega)) [idf_Wd', Sp.av, Sp.cells, Sg.av, Sg.cells]; rfl) ?_)
                    refine hK35 _ ?_
                    refine cond_ok _ (by simp (disch := first|omega|(simp only[ln];omega)); rfl) (fun h68 => ?_) (fun h68 => ?_)
                    · simp at h68
                    · try simp only [decide_eq_true_eq, decide_eq_false_iff_not] at h68
                      refine AWP.skip ?_
                      refine hK34 _ ?_
                      refine AWP.seqk fun K36 hK36 => ?_
                      refine AWP.region (AOPS.all (by simp (disch := first|omega|(simp only[ln];omega)) [idf_Wd', Sp.av, Sp.cells, Sg.av, Sg.cells]; rfl) ?_)
                      refine hK36 _ ?_
                      refine AWP.ret ?_
                      exact hK _ _ _ _ trivial ((Fin.mk (by simp [aRes, aResL, aRes1, idf_Wd', Sp.av, Sp.cells, Sg.av, Sg.cells]; try rfl)))
        refine AWP.region ?_
        refine AOPS.runk 2 (by simp (disch := first|omega|(simp only[ln];omega)) [List.take_succ_cons, List.take_zero, idf_Wd', Sp.av, Sp.cells, Sg.av, Sg.cells]; rfl) ?_
        simp only [List.drop_succ_cons, List.drop_zero]
        refine AOPS.acall (markRing_ac n ix (r.map Sp.cells) 1 _ _ (by simp (disch := omega)) (by simp; omega) (by rw [List.length_map]; exact hrl) (toRing_len r) (by omega) (by omega) (by omega)) rfl rfl rfl hb74 (by simp (disch := first|omega|(simp only[ln];omega)) [idf_Wd', Sp.av, Sp.cells, Sg.av, Sg.cells]) (by simp (disch := first|omega|(simp only[ln];omega))) (by simp) ?_
        rintro _ H2 nx4 ⟨rfl, hM, hfr, hle⟩
        simp only [] at hfr hle
        simp only [puts_some, updo]
        refine AOPS.all (by simp (disch := first|omega|(simp only[ln];omega)) [idf_Wd', Sp.av, Sp.cells, Sg.av, Sg.cells]; rfl) ?_
        refine J16 _ ?_
        exact ⟨nx + 1, nx2 + 1, ⟨by omega, by omega⟩, by simp, by simp, by simp, by simp, (hfr _ (by omega) (by omega)).trans (by simp (disch := omega)), by first | omega | (simp; omega), (hfr _ (by omega) (by omega)).trans (by simp (disch := omega)), by first | omega | (simp; omega), (hfr _ (by omega) (by omega)).trans (by simp (disch := omega)), by first | omega | (simp; omega), rfl⟩
theorem fnExactRingTurned_fc (r : List Sp) (hl : r.length ≤ 9223372036854775807) : FC Try.prog 14 [.agg [.isl (r.map Sp.cells)]] (.bool true) := by
  by_cases hz : rgF r = 0
  · exact fnExactRingTurned_yes r hl hz
  · exact fnExactRingTurned_no r hl hz

end Go.Proofs.Ytmaebeknmiomnaa
