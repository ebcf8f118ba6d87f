/- Walks: the quotient of 128 bits by 64. -/
import Derived.Test.YtdcggmbnjonemaaG0V

namespace Go.Proofs.Ytdcggmbnjonemaa
open Go Go.RowKit
set_option linter.unusedSimpArgs false
set_option linter.unusedVariables false
set_option maxRecDepth 100000
attribute [local simp] List.getElem?_cons_zero List.getElem?_cons_succ List.getElem?_toArray runOps stepOp.eq_def agd.eq_def dstOk.eq_def opVal.eq_def opNew.eq_def opSto.eq_def ev.eq_def cv.eq_def puts_some puts_none upd_ap lst.eq_def aBin.eq_def aUn.eq_def aBi_str aBi_isl aBi_osl aBi_nsl aBi_max aBi_min aBi_max3 aConv.eq_def aLd.eq_def aLoad.eq_def aField.eq_def aFld.eq_def aIdx_isl aIdx_osl aSlc_isl aSlc_osl aSlc_str aSlc_nsl bnd.eq_def evs_nil evs_cons aBuild.eq_def aFill splice.eq_def cells_agg cells_int cells_bool cells_str cells_nil cells_nsl cells_isl cells_osl cells_ptr cells_ip cells_fn cells_Wd one_int one_bool one_str one_nil one_nsl one_isl one_osl one_ptr one_ip one_fn one_Wd aSets hupd_eq hupd_ne wrap_i64s wrap_u64s wrap_u32s wrap_u8s wd_getD wd_set wd_len wd_replicate wd_one wd_fold fz_osl hupd_same aSix.eq_def aEqS.eq_def aEqB_bool aEqB_nsl aEqB_nil
attribute [local simp] szT3 byT3 agT3 unT3 zoT3 szT31 byT31 agT31 unT31 zoT31 szT144 byT144 agT144 unT144 zoT144

set_option maxHeartbeats 4000000 in
theorem div64_fc {hi lo y0 : Int} (h0 : 0 ≤ hi) (h1 : hi < y0) (hl0 : 0 ≤ lo) (hl : lo < 18446744073709551616) (hy : y0 < 18446744073709551616) : FC Try.prog 147 [.int .u64 hi, .int .u64 lo, .int .u64 y0] (.tup [.int .u64 ((hi * 18446744073709551616 + lo) / y0), .int .u64 ((hi * 18446744073709551616 + lo) % y0)]) := by
  obtain ⟨y, rfl⟩ := Int.eq_ofNat_of_zero_le (show 0 ≤ y0 by omega)
  obtain ⟨S, p, Y, U, X, hbl, hS, hp, hp0, hY, hYp, hY1, hY2, hhi0, hhi1, hor, hU0, hU, hX, hN⟩ := dv_norm h0 h1 hl0 hl (show y < 18446744073709551616 by omega)
  have hX0 : 0 ≤ X ∧ X < 18446744073709551616 := by omega
  have hwX : IntKind.u64.wrap (lo * 2 ^ S) = X := by rw [wrap_u64m, hX]
  have hmin : min S 64 = S := by omega
  have hmin2 : min (64 - S) 64 = 64 - S := by omega
  have w8 : (64 : Int) - (bitLen y : Int) = S := by omega
  have hyn : y ≠ 0 := by omega
  have c64 : (S : Int) ≤ 64 := by omega
  have w9 : ((64 : Int) - (S : Int)).toNat = 64 - S := by omega
  have f1 : (lo.fdiv (2 ^ (64 - S))) = lo / 2 ^ (64 - S) := Int.fdiv_eq_ediv_of_nonneg _ (Int.le_of_lt (pow2_pos _))
  refine FC.body Try.func147 rfl (by simp [idfL, idf, idfLL_iff]) (by simp [idfL, idf, idfLL_iff]) 135 rfl fun nx K hK => ?_
  refine AWP.seqk fun K1 hK1 => ?_
  refine AWP.region (AOPS.all (by simp (disch := first|omega|(simp only[ln];omega)); rfl) ?_)
  refine hK1 _ ?_
  refine AWP.seqk fun K2 hK2 => ?_
  refine AWP.seqk fun K3 hK3 => ?_
  refine AWP.region (AOPS.all (by simp (disch := first|omega|(simp only[ln];omega)); rfl) ?_)
  refine hK3 _ ?_
  refine cond_ok _ (by simp (disch := first|omega|(simp only[ln];omega)); rfl) (fun h20 => ?_) (fun h20 => ?_)
  · simp at h20; omega
  · try simp only [decide_eq_true_eq, decide_eq_false_iff_not] at h20
    refine AWP.skip ?_
    refine hK2 _ ?_
    refine AWP.seqk fun K4 hK4 => ?_
    refine AWP.seqk fun K5 hK5 => ?_
    refine AWP.region (AOPS.all (by simp (disch := first|omega|(simp only[ln];omega)); rfl) ?_)
    refine hK5 _ ?_
    refine cond_ok _ (by simp (disch := first|omega|(simp only[ln];omega)); rfl) (fun h24 => ?_) (fun h24 => ?_)
    · simp at h24; omega
    · try simp only [decide_eq_true_eq, decide_eq_false_iff_not] at h24
      refine AWP.skip ?_
      refine hK4 _ ?_
      refine AWP.seqk fun K6 hK6 => ?_
      refine AWP.seqk fun K7 hK7 => ?_
      refine AWP.region (AOPS.all (by simp (disch := first|omega|(simp only[ln];omega)); rfl) ?_)
      refine hK7 _ ?_
      refine cond_ok _ (by simp (disch := first|omega|(simp only[ln];omega)); rfl) (fun h27 => ?_) (fun h27 => ?_)
      · try simp only [decide_eq_true_eq, decide_eq_false_iff_not] at h27
        have hi0 : hi = 0 := by simpa using h27
        subst hi0
        have tq1 : lo.tdiv (y : Int) = lo / y := Int.tdiv_eq_ediv_of_nonneg hl0
        have tq2 : lo.tmod (y : Int) = lo % y := Int.tmod_eq_emod_of_nonneg hl0
        have dn0 : 0 ≤ lo / (y : Int) := Int.ediv_nonneg hl0 (by omega)
        have dn1 : lo / (y : Int) ≤ lo := Int.ediv_le_self _ hl0
        have dn2 := Int.emod_nonneg lo (show (y : Int) ≠ 0 by omega)
        have dn3 := Int.emod_lt_of_pos lo h1
        refine AWP.seqk fun K8 hK8 => ?_
        refine AWP.drawF 6 Try.checked.mixed (by kernel_rfl) (by simp (disch := first|omega|(simp only[ln];omega)) [runDf.eq_def, runF1, runF2, stepF.eq_def, updo.eq_def, hupo.eq_def, opSto1.eq_def, tq1, tq2, hyn]; rfl) ?_
        refine hK8 _ ?_
        refine AWP.ret ?_
        exact hK _ _ _ _ trivial ((Fin.mk (by simp [aRes, aResL, aRes1]; rfl)).cast (by simp))
      · try simp only [decide_eq_true_eq, decide_eq_false_iff_not] at h27
        refine AWP.skip ?_
        refine hK6 _ ?_
        refine AWP.seqk fun K9 hK9 => ?_
        refine AWP.region ?_
        refine AOPS.runk 1 (by simp (disch := first|omega|(simp only[ln];omega)) [List.take_succ_cons, List.take_zero, w8]; rfl) ?_
        simp only [List.drop_succ_cons, List.drop_zero]
        refine AOPS.fcall (lz64_fc y (by omega)) rfl rfl rfl hb146 (by simp (disch := first|omega|(simp only[ln];omega)) [idf_Wd', w8]) (by simp (disch := first|omega|(simp only[ln];omega)) [w8]) (by simp) ?_
        simp only [puts_some, updo]
        refine AOPS.all (by simp (disch := first|omega|(simp only[ln];omega)) [w8]; rfl) ?_
        refine hK9 _ ?_
        refine AWP.seqk fun K10 hK10 => ?_
        refine AWP.region (AOPS.all (by simp (disch := first|omega|(simp only[ln];omega)) [hmin, hY, IntKind.bits]; rfl) ?_)
        refine hK10 _ ?_
        refine AWP.seqk fun K11 hK11 => ?_
        refine AWP.region (AOPS.all (by simp (disch := first|omega|(simp only[ln];omega)) [IntKind.bits, Int.fdiv_eq_ediv_of_nonneg]; rfl) ?_)
        refine hK11 _ ?_
        refine AWP.seqk fun K12 hK12 => ?_
        refine AWP.region (AOPS.all (by simp (disch := first|omega|(simp only[ln];omega)) [and_low32]; rfl) ?_)
        refine hK12 _ ?_
        refine AWP.seqk fun K13 hK13 => ?_
        refine AWP.region (AOPS.all (by simp (disch := first|omega|(simp only[ln];omega)) [hmin, hmin2, w9, hor, f1, c64, IntKind.bits]; rfl) ?_)
        refine hK13 _ ?_
        refine AWP.seqk fun K14 hK14 => ?_
        refine AWP.region (AOPS.all (by simp (disch := first|omega|(simp only[ln];omega)) [hmin, hwX, IntKind.bits]; rfl) ?_)
        refine hK14 _ ?_
        refine AWP.seqk fun K15 hK15 => ?_
        refine AWP.region (AOPS.all (by simp (disch := first|omega|(simp only[ln];omega)) [IntKind.bits, Int.fdiv_eq_ediv_of_nonneg]; rfl) ?_)
        refine hK15 _ ?_
        refine AWP.seqk fun K16 hK16 => ?_
        refine AWP.region (AOPS.all (by simp (disch := first|omega|(simp only[ln];omega)) [and_low32]; rfl) ?_)
        refine hK16 _ ?_
        refine AWP.seqk fun K17 hK17 => ?_
        have hy1n : Y / 4294967296 ≠ 0 := by omega
        have eY : Y / 4294967296 * 4294967296 + Y % 4294967296 = Y := by omega
        have hD0 := DvH.start (y1 := Y / 4294967296) (y0 := Y % 4294967296) (u := U) (un := X / 4294967296) (by omega) (by omega) (by omega) hU0 (by omega) (by omega)
        have hd0 := hD0.q0
        have hd1 := hD0.qm
        have hd2 := hD0.r0
        have hd3 := hD0.e
        have tq : U.tdiv (Y / 4294967296) = U / (Y / 4294967296) := Int.tdiv_eq_ediv_of_nonneg hU0
        have dm := Int.emod_lt_of_pos U (show 0 < Y / 4294967296 by omega)
        have dm2 := Int.mul_ediv_add_emod U (Y / 4294967296)
        rw [Int.mul_comm] at dm2
        have w16 : IntKind.u64.wrap (U - IntKind.u64.wrap (U / (Y / 4294967296) * (Y / 4294967296))) = U - U / (Y / 4294967296) * (Y / 4294967296) := by simp only [wrap_u64m]; omega
        refine AWP.region (AOPS.all (by simp (disch := first|omega|(simp only[ln];omega)) [tq, hy1n]; rfl) ?_)
        refine hK17 _ ?_
        refine AWP.seqk fun K18 hK18 => ?_
        refine AWP.region (AOPS.all (by simp (disch := first|omega|(simp only[ln];omega)); rfl) ?_)
        refine hK18 _ ?_
        refine AWP.seqk fun K19 hK19 => ?_
        have J19 : ∀ s : St, (∃ q : Int, 0 ≤ q ∧ q < 4294967296 ∧ 0 ≤ (U) * 4294967296 + X / 4294967296 - q * Y ∧ (U) * 4294967296 + X / 4294967296 - q * Y < Y ∧ s.env 2 = .int .u64 Y ∧ s.env 8 = .int .u64 (S : Int) ∧ s.env 9 = .int .u64 (Y / 4294967296) ∧ s.env 10 = .int .u64 (Y % 4294967296) ∧ s.env 11 = .int .u64 U ∧ s.env 13 = .int .u64 (X / 4294967296) ∧ s.env 14 = .int .u64 (X % 4294967296) ∧ s.env 15 = .int .u64 q ∧ s.nt = 135) → K19 s := by
          rintro ⟨e, H, m, nt⟩ ⟨q1, q10, q11, k0, k1, g2, g8, g9, g10, g11, g13, g14, g15, rfl⟩
          simp only [] at g2 g8 g9 g10 g11 g13 g14 g15
          obtain ⟨R1, hR1⟩ : ∃ R1, U * 4294967296 + X / 4294967296 - q1 * Y = R1 := ⟨_, rfl⟩
          rw [hR1] at k0 k1
          have hR1' : IntKind.u64.wrap (IntKind.u64.wrap (IntKind.u64.wrap (U * 4294967296) + X / 4294967296) - IntKind.u64.wrap (q1 * Y)) = R1 := by
            simp only [wrap_u64m]; omega
          refine hK19 _ ?_
          refine AWP.seqk fun K20 hK20 => ?_
          refine AWP.region (AOPS.all (by simp (disch := first|omega|(simp only[ln];omega)) [g11, g13, g15, g2, hR1']; rfl) ?_)
          refine hK20 _ ?_
          refine AWP.seqk fun K21 hK21 => ?_
          have hy1n : Y / 4294967296 ≠ 0 := by omega
          have eY : Y / 4294967296 * 4294967296 + Y % 4294967296 = Y := by omega
          have hD0 := DvH.start (y1 := Y / 4294967296) (y0 := Y % 4294967296) (u := R1) (un := X % 4294967296) (by omega) (by omega) (by omega) k0 (by omega) (by omega)
          have hd0 := hD0.q0
          have hd1 := hD0.qm
          have hd2 := hD0.r0
          have hd3 := hD0.e
          have tq : R1.tdiv (Y / 4294967296) = R1 / (Y / 4294967296) := Int.tdiv_eq_ediv_of_nonneg k0
          have dm := Int.emod_lt_of_pos R1 (show 0 < Y / 4294967296 by omega)
          have dm2 := Int.mul_ediv_add_emod R1 (Y / 4294967296)
          rw [Int.mul_comm] at dm2
          have w16 : IntKind.u64.wrap (R1 - IntKind.u64.wrap (R1 / (Y / 4294967296) * (Y / 4294967296))) = R1 - R1 / (Y / 4294967296) * (Y / 4294967296) := by simp only [wrap_u64m]; omega
          refine AWP.region (AOPS.all (by simp (disch := first|omega|(simp only[ln];omega)) [g9, tq, hy1n]; rfl) ?_)
          refine hK21 _ ?_
          refine AWP.seqk fun K22 hK22 => ?_
          refine AWP.region (AOPS.all (by simp (disch := first|omega|(simp only[ln];omega)) [g9]; rfl) ?_)
          refine hK22 _ ?_
          refine AWP.seqk fun K23 hK23 => ?_
          have J23 : ∀ s : St, (∃ q : Int, 0 ≤ q ∧ q < 4294967296 ∧ 0 ≤ (R1) * 4294967296 + X % 4294967296 - q * Y ∧ (R1) * 4294967296 + X % 4294967296 - q * Y < Y ∧ s.env 2 = .int .u64 Y ∧ s.env 8 = .int .u64 (S : Int) ∧ s.env 9 = .int .u64 (Y / 4294967296) ∧ s.env 10 = .int .u64 (Y % 4294967296) ∧ s.env 14 = .int .u64 (X % 4294967296) ∧ s.env 15 = .int .u64 q1 ∧ s.env 17 = .int .u64 R1 ∧ s.env 18 = .int .u64 q ∧ s.nt = 135) → K23 s := by
            clear g2 g8 g9 g10 g11 g13 g14 g15
            rintro ⟨e, H, m, nt⟩ ⟨q0, q00, q01, k2, k3, g2, g8, g9, g10, g14, g15, g17, g18, rfl⟩
            simp only [] at g2 g8 g9 g10 g14 g15 g17 g18
            obtain ⟨R0, hR0⟩ : ∃ R0, R1 * 4294967296 + X % 4294967296 - q0 * Y = R0 := ⟨_, rfl⟩
            rw [hR0] at k2 k3
            have hR0' : IntKind.u64.wrap (IntKind.u64.wrap (IntKind.u64.wrap (R1 * 4294967296) + X % 4294967296) - IntKind.u64.wrap (q0 * Y)) = R0 := by
              simp only [wrap_u64m]; omega
            have hf := dv_fin (N := hi * 18446744073709551616 + lo) (y := (y : Int)) (u := U) (un1 := X / 4294967296) (un0 := X % 4294967296) (q1 := q1) (q0 := q0) (R1 := R1) (R0 := R0) hp0 (by rw [← hYp]; exact hR1) (by rw [← hYp]; exact hR0) (by rw [hN]; omega) k2 (by rw [← hYp]; exact k3)
            have f2 : R0.fdiv (2 ^ S) = R0 / 2 ^ S := Int.fdiv_eq_ediv_of_nonneg _ (Int.le_of_lt (pow2_pos _))
            refine hK23 _ ?_
            refine AWP.seqk fun K24 hK24 => ?_
            refine AWP.region (AOPS.all (by simp (disch := first|omega|(simp only[ln];omega)) [g2, g8, g14, g15, g17, g18, hR0', hmin, IntKind.bits, f2]; rfl) ?_)
            refine hK24 _ ?_
            refine AWP.ret ?_
            exact hK _ _ _ _ trivial ((Fin.mk (by simp [aRes, aResL, aRes1]; rfl)).cast (by first | rw [hf.1, hf.2, hp] | skip))
          refine AWP.block ?_
          refine AWP.loop (fun n s => ∃ q r : Int, n = q.toNat ∧ DvH (Y / 4294967296) (Y % 4294967296) (R1) (X % 4294967296) q r ∧ r < 4294967296 ∧ s.env 2 = .int .u64 Y ∧ s.env 8 = .int .u64 (S : Int) ∧ s.env 9 = .int .u64 (Y / 4294967296) ∧ s.env 10 = .int .u64 (Y % 4294967296) ∧ s.env 14 = .int .u64 (X % 4294967296) ∧ s.env 15 = .int .u64 q1 ∧ s.env 17 = .int .u64 R1 ∧ s.env 18 = .int .u64 q ∧ s.env 16 = .int .u64 r ∧ s.nt = 135) (((R1) / (Y / 4294967296)).toNat) (⟨(R1) / (Y / 4294967296), (R1) - (R1) / (Y / 4294967296) * (Y / 4294967296), rfl, hD0, by omega, by simp [g2], by simp [g8], by simp [g9], by simp [g10], by simp [g14], by simp [g15], by simp, by simp, by simp [w16], rfl⟩) ?_
          rintro n ⟨e, H, m, nt⟩ ⟨q, r, rfl, hD, hr, g2, g8, g9, g10, g14, g15, g17, gq, gr, rfl⟩
          simp only [] at g2 g8 g9 g10 g14 g15 g17 gq gr
          have hr0 := hD.r0
          have hq0 := hD.q0
          have hqm := hD.qm
          refine AWP.seqk fun K25 hK25 => ?_
          refine AWP.seqk fun K26 hK26 => ?_
          by_cases hqB : 4294967296 ≤ q
          · have c1 : decide (4294967296 ≤ q) = true := by simp; omega
            refine AWP.region (AOPS.all (by simp (disch := first|omega|(simp only[ln];omega)) [gq, c1]; rfl) ?_)
            refine hK26 _ ?_
            refine cond_ok _ (by simp (disch := first|omega|(simp only[ln];omega)); rfl) (fun h113 => ?_) (fun h113 => ?_)
            · try simp only [decide_eq_true_eq, decide_eq_false_iff_not] at h113
              have hq1 := hD.pos (by omega) (.inl hqB)
              have hst := hD.step (by omega) (by omega) (by omega) (by omega) (by omega) (.inl hqB)
              refine AWP.skip ?_
              refine hK25 _ ?_
              refine AWP.block ?_
              refine AWP.seqk fun K27 hK27 => ?_
              refine AWP.region (AOPS.all (by simp (disch := first|omega|(simp only[ln];omega)) [gq]; rfl) ?_)
              refine hK27 _ ?_
              refine AWP.seqk fun K28 hK28 => ?_
              refine AWP.region (AOPS.all (by simp (disch := first|omega|(simp only[ln];omega)) [gr, g9]; rfl) ?_)
              refine hK28 _ ?_
              refine AWP.seqk fun K29 hK29 => ?_
              refine AWP.region (AOPS.all (by simp (disch := first|omega|(simp only[ln];omega)); rfl) ?_)
              refine hK29 _ ?_
              refine cond_ok _ (by simp (disch := first|omega|(simp only[ln];omega)); rfl) (fun h120 => ?_) (fun h120 => ?_)
              · try simp only [decide_eq_true_eq, decide_eq_false_iff_not] at h120
                have ho := hst.out (by omega) (by omega) (by omega) (by omega) (by omega) (by omega) (.inr ⟨by omega, by omega⟩)
                rw [eY] at ho
                refine AWP.exit ?_
                refine J23 _ ?_
                exact ⟨q - 1, by omega, ho.2.2, ho.1, ho.2.1, by simp [g2], by simp [g8], by simp [g9], by simp [g10], by simp [g14], by simp [g15], by simp [g17], by simp [gq], rfl⟩
              · try simp only [decide_eq_true_eq, decide_eq_false_iff_not] at h120
                refine AWP.skip ?_
                refine ⟨(q - 1).toNat, by omega, q - 1, r + Y / 4294967296, rfl, hst, by omega, by simp [g2], by simp [g8], by simp [g9], by simp [g10], by simp [g14], by simp [g15], by simp [g17], by simp, by simp, rfl⟩
            · simp at h113
          · have c1 : decide (4294967296 ≤ q) = false := by simp; omega
            have m1 : q * (Y % 4294967296) ≤ 4294967295 * 4294967295 := Int.mul_le_mul (by omega) (by omega) (by omega) (by omega)
            have m0 : 0 ≤ q * (Y % 4294967296) := Int.mul_nonneg (by omega) (by omega)
            refine AWP.region (AOPS.all (by simp (disch := first|omega|(simp only[ln];omega)) [gq, gr, g10, g14, c1]; rfl) ?_)
            refine hK26 _ ?_
            refine cond_ok _ (by simp (disch := first|omega|(simp only[ln];omega)); rfl) (fun h113 => ?_) (fun h113 => ?_)
            · try simp only [decide_eq_true_eq, decide_eq_false_iff_not] at h113
              have hq1 := hD.pos (by omega) (.inr (by omega))
              have hst := hD.step (by omega) (by omega) (by omega) (by omega) (by omega) (.inr (by omega))
              refine AWP.skip ?_
              refine hK25 _ ?_
              refine AWP.block ?_
              refine AWP.seqk fun K30 hK30 => ?_
              refine AWP.region (AOPS.all (by simp (disch := first|omega|(simp only[ln];omega)) [gq]; rfl) ?_)
              refine hK30 _ ?_
              refine AWP.seqk fun K31 hK31 => ?_
              refine AWP.region (AOPS.all (by simp (disch := first|omega|(simp only[ln];omega)) [gr, g9]; rfl) ?_)
              refine hK31 _ ?_
              refine AWP.seqk fun K32 hK32 => ?_
              refine AWP.region (AOPS.all (by simp (disch := first|omega|(simp only[ln];omega)); rfl) ?_)
              refine hK32 _ ?_
              refine cond_ok _ (by simp (disch := first|omega|(simp only[ln];omega)); rfl) (fun h120 => ?_) (fun h120 => ?_)
              · try simp only [decide_eq_true_eq, decide_eq_false_iff_not] at h120
                have ho := hst.out (by omega) (by omega) (by omega) (by omega) (by omega) (by omega) (.inr ⟨by omega, by omega⟩)
                rw [eY] at ho
                refine AWP.exit ?_
                refine J23 _ ?_
                exact ⟨q - 1, by omega, ho.2.2, ho.1, ho.2.1, by simp [g2], by simp [g8], by simp [g9], by simp [g10], by simp [g14], by simp [g15], by simp [g17], by simp [gq], rfl⟩
              · try simp only [decide_eq_true_eq, decide_eq_false_iff_not] at h120
                refine AWP.skip ?_
                refine ⟨(q - 1).toNat, by omega, q - 1, r + Y / 4294967296, rfl, hst, by omega, by simp [g2], by simp [g8], by simp [g9], by simp [g10], by simp [g14], by simp [g15], by simp [g17], by simp, by simp, rfl⟩
            · try simp only [decide_eq_true_eq, decide_eq_false_iff_not] at h113
              have ho := hD.out (by omega) (by omega) (by omega) (by omega) (by omega) (by omega) (.inl ⟨by omega, by omega⟩)
              rw [eY] at ho
              refine AWP.exit ?_
              refine J23 _ ?_
              exact ⟨q, by omega, ho.2.2, ho.1, ho.2.1, by simp [g2], by simp [g8], by simp [g9], by simp [g10], by simp [g14], by simp [g15], by simp [g17], by simp [gq], rfl⟩
        refine AWP.block ?_
        refine AWP.loop (fun n s => ∃ q r : Int, n = q.toNat ∧ DvH (Y / 4294967296) (Y % 4294967296) (U) (X / 4294967296) q r ∧ r < 4294967296 ∧ s.env 2 = .int .u64 Y ∧ s.env 8 = .int .u64 (S : Int) ∧ s.env 9 = .int .u64 (Y / 4294967296) ∧ s.env 10 = .int .u64 (Y % 4294967296) ∧ s.env 11 = .int .u64 U ∧ s.env 13 = .int .u64 (X / 4294967296) ∧ s.env 14 = .int .u64 (X % 4294967296) ∧ s.env 15 = .int .u64 q ∧ s.env 16 = .int .u64 r ∧ s.nt = 135) (((U) / (Y / 4294967296)).toNat) (⟨(U) / (Y / 4294967296), (U) - (U) / (Y / 4294967296) * (Y / 4294967296), rfl, hD0, by omega, by simp, by simp, by simp, by simp, by simp, by simp, by simp, by simp, by simp [w16], rfl⟩) ?_
        rintro n ⟨e, H, m, nt⟩ ⟨q, r, rfl, hD, hr, g2, g8, g9, g10, g11, g13, g14, gq, gr, rfl⟩
        simp only [] at g2 g8 g9 g10 g11 g13 g14 gq gr
        have hr0 := hD.r0
        have hq0 := hD.q0
        have hqm := hD.qm
        refine AWP.seqk fun K33 hK33 => ?_
        refine AWP.seqk fun K34 hK34 => ?_
        by_cases hqB : 4294967296 ≤ q
        · have c1 : decide (4294967296 ≤ q) = true := by simp; omega
          refine AWP.region (AOPS.all (by simp (disch := first|omega|(simp only[ln];omega)) [gq, c1]; rfl) ?_)
          refine hK34 _ ?_
          refine cond_ok _ (by simp (disch := first|omega|(simp only[ln];omega)); rfl) (fun h78 => ?_) (fun h78 => ?_)
          · try simp only [decide_eq_true_eq, decide_eq_false_iff_not] at h78
            have hq1 := hD.pos (by omega) (.inl hqB)
            have hst := hD.step (by omega) (by omega) (by omega) (by omega) (by omega) (.inl hqB)
            refine AWP.skip ?_
            refine hK33 _ ?_
            refine AWP.block ?_
            refine AWP.seqk fun K35 hK35 => ?_
            refine AWP.region (AOPS.all (by simp (disch := first|omega|(simp only[ln];omega)) [gq]; rfl) ?_)
            refine hK35 _ ?_
            refine AWP.seqk fun K36 hK36 => ?_
            refine AWP.region (AOPS.all (by simp (disch := first|omega|(simp only[ln];omega)) [gr, g9]; rfl) ?_)
            refine hK36 _ ?_
            refine AWP.seqk fun K37 hK37 => ?_
            refine AWP.region (AOPS.all (by simp (disch := first|omega|(simp only[ln];omega)); rfl) ?_)
            refine hK37 _ ?_
            refine cond_ok _ (by simp (disch := first|omega|(simp only[ln];omega)); rfl) (fun h85 => ?_) (fun h85 => ?_)
            · try simp only [decide_eq_true_eq, decide_eq_false_iff_not] at h85
              have ho := hst.out (by omega) (by omega) (by omega) (by omega) (by omega) (by omega) (.inr ⟨by omega, by omega⟩)
              rw [eY] at ho
              refine AWP.exit ?_
              refine J19 _ ?_
              exact ⟨q - 1, by omega, ho.2.2, ho.1, ho.2.1, by simp [g2], by simp [g8], by simp [g9], by simp [g10], by simp [g11], by simp [g13], by simp [g14], by simp [gq], rfl⟩
            · try simp only [decide_eq_true_eq, decide_eq_false_iff_not] at h85
              refine AWP.skip ?_
              refine ⟨(q - 1).toNat, by omega, q - 1, r + Y / 4294967296, rfl, hst, by omega, by simp [g2], by simp [g8], by simp [g9], by simp [g10], by simp [g11], by simp [g13], by simp [g14], by simp, by simp, rfl⟩
          · simp at h78
        · have c1 : decide (4294967296 ≤ q) = false := by simp; omega
          have m1 : q * (Y % 4294967296) ≤ 4294967295 * 4294967295 := Int.mul_le_mul (by omega) (by omega) (by omega) (by omega)
          have m0 : 0 ≤ q * (Y % 4294967296) := Int.mul_nonneg (by omega) (by omega)
          refine AWP.region (AOPS.all (by simp (disch := first|omega|(simp only[ln];omega)) [gq, gr, g10, g13, c1]; rfl) ?_)
          refine hK34 _ ?_
          refine cond_ok _ (by simp (disch := first|omega|(simp only[ln];omega)); rfl) (fun h78 => ?_) (fun h78 => ?_)
          · try simp only [decide_eq_true_eq, decide_eq_false_iff_not] at h78
            have hq1 := hD.pos (by omega) (.inr (by omega))
            have hst := hD.step (by omega) (by omega) (by omega) (by omega) (by omega) (.inr (by omega))
            refine AWP.skip ?_
            refine hK33 _ ?_
            refine AWP.block ?_
            refine AWP.seqk fun K38 hK38 => ?_
            refine AWP.region (AOPS.all (by simp (disch := first|omega|(simp only[ln];omega)) [gq]; rfl) ?_)
            refine hK38 _ ?_
            refine AWP.seqk fun K39 hK39 => ?_
            refine AWP.region (AOPS.all (by simp (disch := first|omega|(simp only[ln];omega)) [gr, g9]; rfl) ?_)
            refine hK39 _ ?_
            refine AWP.seqk fun K40 hK40 => ?_
            refine AWP.region (AOPS.all (by simp (disch := first|omega|(simp only[ln];omega)); rfl) ?_)
            refine hK40 _ ?_
            refine cond_ok _ (by simp (disch := first|omega|(simp only[ln];omega)); rfl) (fun h85 => ?_) (fun h85 => ?_)
            · try simp only [decide_eq_true_eq, decide_eq_false_iff_not] at h85
              have ho := hst.out (by omega) (by omega) (by omega) (by omega) (by omega) (by omega) (.inr ⟨by omega, by omega⟩)
              rw [eY] at ho
              refine AWP.exit ?_
              refine J19 _ ?_
              exact ⟨q - 1, by omega, ho.2.2, ho.1, ho.2.1, by simp [g2], by simp [g8], by simp [g9], by simp [g10], by simp [g11], by simp [g13], by simp [g14], by simp [gq], rfl⟩
            · try simp only [decide_eq_true_eq, decide_eq_false_iff_not] at h85
              refine AWP.skip ?_
              refine ⟨(q - 1).toNat, by omega, q - 1, r + Y / 4294967296, rfl, hst, by omega, by simp [g2], by simp [g8], by simp [g9], by simp [g10], by simp [g11], by simp [g13], by simp [g14], by simp, by simp, rfl⟩
          · try simp only [decide_eq_true_eq, decide_eq_false_iff_not] at h78
            have ho := hD.out (by omega) (by omega) (by omega) (by omega) (by omega) (by omega) (.inl ⟨by omega, by omega⟩)
            rw [eY] at ho
            refine AWP.exit ?_
            refine J19 _ ?_
            exact ⟨q, by omega, ho.2.2, ho.1, ho.2.1, by simp [g2], by simp [g8], by simp [g9], by simp [g10], by simp [g11], by simp [g13], by simp [g14], by simp [gq], rfl⟩

end Go.Proofs.Ytdcggmbnjonemaa

/- Walks: words moved up. -/
namespace Go.Proofs.Ytdcggmbnjonemaa
open Go Go.RowKit
set_option linter.unusedSimpArgs false
set_option linter.unusedVariables false
set_option maxRecDepth 100000
attribute [local simp] List.getElem?_cons_zero List.getElem?_cons_succ List.getElem?_toArray runOps stepOp.eq_def agd.eq_def dstOk.eq_def opVal.eq_def opNew.eq_def opSto.eq_def ev.eq_def cv.eq_def puts_some puts_none upd_ap lst.eq_def aBin.eq_def aUn.eq_def aBi_str aBi_isl aBi_osl aBi_nsl aBi_max aBi_min aBi_max3 aConv.eq_def aLd.eq_def aLoad.eq_def aField.eq_def aFld.eq_def aIdx_isl aIdx_osl aSlc_isl aSlc_osl aSlc_str aSlc_nsl bnd.eq_def evs_nil evs_cons aBuild.eq_def aFill splice.eq_def cells_agg cells_int cells_bool cells_str cells_nil cells_nsl cells_isl cells_osl cells_ptr cells_ip cells_fn cells_Wd one_int one_bool one_str one_nil one_nsl one_isl one_osl one_ptr one_ip one_fn one_Wd aSets hupd_eq hupd_ne wrap_i64s wrap_u64s wrap_u32s wrap_u8s wd_getD wd_set wd_len wd_replicate wd_one wd_fold fz_osl hupd_same aSix.eq_def aEqS.eq_def aEqB_bool aEqB_nsl aEqB_nil
attribute [local simp] szT3 byT3 agT3 unT3 zoT3 szT31 byT31 agT31 unT31 zoT31 szT97 byT97 agT97 elT97 unT97 zoT97

set_option maxHeartbeats 2000000 in
theorem shifted_fo (w : List Int) (k : Nat) (dw : Dig 18446744073709551616 w) (hk : k ≤ 63) (hl : w.length ≤ 274877906944) : FO Try.prog 148 [Wd .u64 w, .int .i64 (k : Int)] 1 (wd .u64 (shW w (2 ^ k))) := by
  have hp1 : (1 : Int) ≤ 2 ^ k := by have := pow2_pos k; omega
  have c64 : (k : Int) ≤ 64 := by omega
  have hmin : min k 64 = k := by omega
  have hmin2 : min (64 - k) 64 = 64 - k := by omega
  have w9 : ((64 : Int) - (k : Int)).toNat = 64 - k := by omega
  have f1 : ∀ x : Int, x.fdiv (2 ^ (64 - k)) = x / 2 ^ (64 - k) := fun x => Int.fdiv_eq_ediv_of_nonneg _ (Int.le_of_lt (pow2_pos _))
  refine FO.body Try.func148 rfl (by simp [idfL, idf, idfLL_iff, idf_Wd']) (wd_pln _ _) 40 rfl fun nx K hK => ?_
  refine AWP.seqk fun K1 hK1 => ?_
  refine AWP.region (AOPS.all (by simp (disch := first|omega|(simp only[ln];omega)) [idf_Wd']; rfl) ?_)
  refine hK1 _ ?_
  refine AWP.seqk fun K2 hK2 => ?_
  refine AWP.region (AOPS.all (by simp (disch := first|omega|(simp only[ln];omega)) [if_pos, len_Wd (P := Try.prog) #[97] rfl elT97, idf_Wd']; rfl) ?_)
  refine hK2 _ ?_
  refine AWP.seqk fun K3 hK3 => ?_
  refine AWP.seqk fun K4 hK4 => ?_
  refine AWP.region (AOPS.all (by simp (disch := first|omega|(simp only[ln];omega)) [len_Wd (P := Try.prog) #[97] rfl elT97, idf_Wd']; rfl) ?_)
  refine hK4 _ ?_
  refine AWP.block ?_
  have et0 : ((w.length : Int) + 1).toNat = w.length + 1 := by omega
  have hs0 : List.replicate (w.length + 1) (0 : Int) = shS w (2 ^ k) 0 := by simp [shS, shR, List.replicate_succ]
  refine AWP.loop (fun n s => ∃ i id : Nat, n = w.length - i ∧ i ≤ w.length ∧ s.env 1 = .int .i64 (k : Int) ∧ s.env 5 = .osl id 0 (w.length + 1) ∧ s.env 12 = Wd .u64 w ∧ s.env 13 = .int .i64 (w.length : Int) ∧ s.env 14 = .int .i64 (i : Int) ∧ s.heap id = some (1, wd .u64 (shS w (2 ^ k) i)) ∧ id < s.nx ∧ s.nt = 40) (w.length) (⟨0, nx, by omega, by omega, by simp, by simp [et0], by simp, by simp, by simp, by simp [et0, hs0], by simp, rfl⟩) ?_
  rintro n ⟨e, H, m, nt⟩ ⟨i, id, rfl, hi, h1, h5, h12, h13, h14, hH, hid, rfl⟩
  simp only [] at h1 h5 h12 h13 h14 hH hid
  obtain ⟨r1, r2, r3, r4, r5⟩ := shR_spec dw hp1 i
  have hsl := shS_len dw hp1 hi
  have hsg := shS_gt dw hp1 i
  refine AWP.seqk fun K5 hK5 => ?_
  refine AWP.region (AOPS.all (by simp (disch := first|omega|(simp only[ln];omega)) [idf_Wd', h13, h14]; rfl) ?_)
  refine hK5 _ ?_
  refine AWP.seqk fun K6 hK6 => ?_
  refine cond_ok _ (by simp (disch := first|omega|(simp only[ln];omega)); rfl) (fun h15 => ?_) (fun h15 => ?_)
  · try simp only [decide_eq_true_eq, decide_eq_false_iff_not] at h15
    have hi' : i < w.length := by omega
    have gw := dw.gt (by omega) i
    obtain ⟨st1, st2⟩ := sh_step hk gw.1 gw.2 r3 r4
    have m0 : 0 ≤ gt w i * 2 ^ k := Int.mul_nonneg gw.1 (by omega)
    have e1 := shS_step dw hp1 hi'
    have hwm : IntKind.u64.wrap (gt w i * 2 ^ k) = gt w i * 2 ^ k % 18446744073709551616 := wrap_u64m _
    refine AWP.skip ?_
    refine hK6 _ ?_
    refine AWP.seqk fun K7 hK7 => ?_
    refine AWP.block ?_
    refine AWP.seqk fun K8 hK8 => ?_
    refine AWP.region (AOPS.all (by simp (disch := first|omega|(simp only[ln];omega)) [idx_WdD (P := Try.prog) elT97 szT31, if_pos, idf_Wd', h12, h14, ld_ip agT31]; rfl) ?_)
    refine hK8 _ ?_
    refine AWP.seqk fun K9 hK9 => ?_
    refine AWP.drawF 9 Try.checked.mixed (by kernel_rfl) (by simp (disch := first|omega|(simp only[ln];omega)) [runDf.eq_def, runF1, runF2, stepF.eq_def, updo.eq_def, hupo.eq_def, opSto1.eq_def, idx_WdD (P := Try.prog) elT97 szT31, if_pos, idf_Wd', h1, h5, hH, hsl, hsg, hmin, IntKind.bits, hwm, st1]; rfl) ?_
    refine hK9 _ ?_
    refine AWP.seqk fun K10 hK10 => ?_
    refine AWP.region (AOPS.all (by simp (disch := first|omega|(simp only[ln];omega)) [idf_Wd', h1]; rfl) ?_)
    refine hK10 _ ?_
    refine cond_ok _ (by simp (disch := first|omega|(simp only[ln];omega)); rfl) (fun h29 => ?_) (fun h29 => ?_)
    · try simp only [decide_eq_true_eq, decide_eq_false_iff_not] at h29
      refine AWP.region (AOPS.all (by simp (disch := first|omega|(simp only[ln];omega)) [idx_WdD (P := Try.prog) elT97 szT31, if_pos, idf_Wd', h1, h5, hsl, w9, hmin2, f1, st2, IntKind.bits]; rfl) ?_)
      refine hK7 _ ?_
      refine AWP.region (AOPS.all (by simp (disch := first|omega|(simp only[ln];omega)) [idf_Wd', h14]; rfl) ?_)
      refine ⟨w.length - (i + 1), by omega, i + 1, id, rfl, by omega, by simp [h1], by simp [h5], by simp [h12], by simp [h13], by simp (disch := omega) [h14], by simp [← e1], by simp; omega, rfl⟩
    · try simp only [decide_eq_true_eq, decide_eq_false_iff_not] at h29
      have hk0 : k = 0 := by omega
      have e0 := shS_step0 dw hp1 hi' (by rw [← st2]; subst hk0; simp; omega)
      refine AWP.skip ?_
      refine hK7 _ ?_
      refine AWP.region (AOPS.all (by simp (disch := first|omega|(simp only[ln];omega)) [idf_Wd', h14]; rfl) ?_)
      refine ⟨w.length - (i + 1), by omega, i + 1, id, rfl, by omega, by simp [h1], by simp [h5], by simp [h12], by simp [h13], by simp (disch := omega) [h14], by simp [← e0], by simp; omega, rfl⟩
  · try simp only [decide_eq_true_eq, decide_eq_false_iff_not] at h15
    obtain rfl : i = w.length := by omega
    refine AWP.exit ?_
    refine hK3 _ ?_
    refine AWP.seqk fun K11 hK11 => ?_
    refine AWP.region (AOPS.all (by simp (disch := first|omega|(simp only[ln];omega)) [idf_Wd', h5]; rfl) ?_)
    refine hK11 _ ?_
    refine AWP.ret ?_
    exact hK _ _ (id) _ _ trivial ((Fin.mk (r := .osl id 0 (w.length + 1)) (by simp [aRes, aResL, aRes1])).cast (by rw [wd_len, shW, hsl])) (by simp [hH, shW])

end Go.Proofs.Ytdcggmbnjonemaa

/- Walks: words trimmed in place. -/
namespace Go.Proofs.Ytdcggmbnjonemaa
open Go Go.RowKit
set_option linter.unusedSimpArgs false
set_option linter.unusedVariables false
set_option maxRecDepth 100000
attribute [local simp] List.getElem?_cons_zero List.getElem?_cons_succ List.getElem?_toArray runOps stepOp.eq_def agd.eq_def dstOk.eq_def opVal.eq_def opNew.eq_def opSto.eq_def ev.eq_def cv.eq_def puts_some puts_none upd_ap lst.eq_def aBin.eq_def aUn.eq_def aBi_str aBi_isl aBi_osl aBi_nsl aBi_max aBi_min aBi_max3 aConv.eq_def aLd.eq_def aLoad.eq_def aField.eq_def aFld.eq_def aIdx_isl aIdx_osl aSlc_isl aSlc_osl aSlc_str aSlc_nsl bnd.eq_def evs_nil evs_cons aBuild.eq_def aFill splice.eq_def cells_agg cells_int cells_bool cells_str cells_nil cells_nsl cells_isl cells_osl cells_ptr cells_ip cells_fn cells_Wd one_int one_bool one_str one_nil one_nsl one_isl one_osl one_ptr one_ip one_fn one_Wd aSets hupd_eq hupd_ne wrap_i64s wrap_u64s wrap_u32s wrap_u8s wd_getD wd_set wd_len wd_replicate wd_one wd_fold fz_osl hupd_same aSix.eq_def aEqS.eq_def aEqB_bool aEqB_nsl aEqB_nil
attribute [local simp] szT3 byT3 agT3 unT3 zoT3 szT31 byT31 agT31 unT31 zoT31 szT97 byT97 agT97 elT97 unT97 zoT97

set_option maxHeartbeats 1000000 in
theorem trim_ac (l : List Int) (id N : Nat) (H : Heap) (nx : Nat) (hH : H id = some (1, wd .u64 l)) (hN : N ≤ l.length) (hl : l.length ≤ 1099511627776) : ACall Try.prog 113 [.osl id 0 N] H nx (fun r H' nx' => r = .osl id 0 (trimW (l.take N)).length ∧ H' = H ∧ nx ≤ nx') := by
  refine ACall.body Try.func113 rfl 21 rfl fun K hK => ?_
  refine AWP.seqk fun K1 hK1 => ?_
  refine AWP.region (AOPS.all (by simp (disch := first|omega|(simp only[ln];omega)) [idf_Wd']; rfl) ?_)
  refine hK1 _ ?_
  refine AWP.seqk fun K2 hK2 => ?_
  refine AWP.block ?_
  refine AWP.loop (fun n s => ∃ q, n = q ∧ q ≤ N ∧ trimW (l.take q) = trimW (l.take N) ∧ s.env 0 = .osl id 0 q ∧ s.heap = H ∧ nx ≤ s.nx ∧ s.nt = 21) (N) (⟨N, rfl, Nat.le_refl _, rfl, by simp, rfl, by simp, rfl⟩) ?_
  rintro n ⟨e, H2, m, nt⟩ ⟨q, rfl, hq, ht, h0, rfl, hm, rfl⟩
  simp only [] at h0 hm hH
  refine AWP.seqk fun K3 hK3 => ?_
  refine AWP.seqk fun K4 hK4 => ?_
  rcases Nat.eq_zero_or_pos n with rfl | hn0
  · refine AWP.region (AOPS.all (by simp (disch := first|omega|(simp only[ln];omega)) [idx_WdD (P := Try.prog) elT97 szT31, if_pos, len_Wd (P := Try.prog) #[97] rfl elT97, idf_Wd', h0, hH]; rfl) ?_)
    refine hK4 _ ?_
    refine cond_ok _ (by simp (disch := first|omega|(simp only[ln];omega)); rfl) (fun h14 => ?_) (fun h14 => ?_)
    · simp at h14
    · try simp only [decide_eq_true_eq, decide_eq_false_iff_not] at h14
      refine AWP.exit ?_
      refine hK2 _ ?_
      refine AWP.seqk fun K5 hK5 => ?_
      refine AWP.region (AOPS.all (by simp (disch := first|omega|(simp only[ln];omega)) [idf_Wd', h0]; rfl) ?_)
      refine hK5 _ ?_
      refine AWP.ret ?_
      exact hK _ _ _ _ _ trivial (Fin.mk (r := .osl id 0 (trimW (l.take N)).length) (by simp [aRes, aResL, aRes1, ← ht, trimW])) (⟨rfl, rfl, hm⟩)
  · obtain ⟨k, rfl⟩ : ∃ k, n = k + 1 := ⟨n - 1, by omega⟩
    have htk : l.take (k + 1) = l.take k ++ [gt l k] := take_succ_gt (by omega)
    refine AWP.region (AOPS.all (by simp (disch := first|omega|(simp only[ln];omega)) [idx_WdD (P := Try.prog) elT97 szT31, if_pos, len_Wd (P := Try.prog) #[97] rfl elT97, idf_Wd', h0, hH, ld_ip agT31]; rfl) ?_)
    refine hK4 _ ?_
    refine cond_ok _ (by simp (disch := first|omega|(simp only[ln];omega)); rfl) (fun h14 => ?_) (fun h14 => ?_)
    · try simp only [decide_eq_true_eq, decide_eq_false_iff_not] at h14
      have hx : gt l k = 0 := by simpa using h14
      refine AWP.skip ?_
      refine hK3 _ ?_
      refine AWP.block ?_
      refine AWP.region (AOPS.all (by simp (disch := first|omega|(simp only[ln];omega)) [if_pos, len_Wd (P := Try.prog) #[97] rfl elT97, idf_Wd', h0, hH]; rfl) ?_)
      refine ⟨k, by omega, k, rfl, by omega, ?_, by simp, rfl, hm, rfl⟩
      rw [← ht, htk, hx, trimW_concat_zero]
    · try simp only [decide_eq_true_eq, decide_eq_false_iff_not] at h14
      have hx : gt l k ≠ 0 := by simpa using h14
      refine AWP.exit ?_
      refine hK2 _ ?_
      refine AWP.seqk fun K6 hK6 => ?_
      refine AWP.region (AOPS.all (by simp (disch := first|omega|(simp only[ln];omega)) [idf_Wd', h0]; rfl) ?_)
      refine hK6 _ ?_
      refine AWP.ret ?_
      exact hK _ _ _ _ _ trivial (Fin.mk (r := .osl id 0 (trimW (l.take N)).length) (by simp [aRes, aResL, aRes1, ← ht, htk, trimW_concat_pos _ _ hx]; omega)) (⟨rfl, rfl, hm⟩)

end Go.Proofs.Ytdcggmbnjonemaa

/- Walks: the division of words. -/
namespace Go.Proofs.Ytdcggmbnjonemaa
open Go Go.RowKit
set_option linter.unusedSimpArgs false
set_option linter.unusedVariables false
set_option maxRecDepth 100000
attribute [local simp] List.getElem?_cons_zero List.getElem?_cons_succ List.getElem?_toArray runOps stepOp.eq_def agd.eq_def dstOk.eq_def opVal.eq_def opNew.eq_def opSto.eq_def ev.eq_def cv.eq_def puts_some puts_none upd_ap lst.eq_def aBin.eq_def aUn.eq_def aBi_str aBi_isl aBi_osl aBi_nsl aBi_max aBi_min aBi_max3 aConv.eq_def aLd.eq_def aLoad.eq_def aField.eq_def aFld.eq_def aIdx_isl aIdx_osl aSlc_isl aSlc_osl aSlc_str aSlc_nsl bnd.eq_def evs_nil evs_cons aBuild.eq_def aFill splice.eq_def cells_agg cells_int cells_bool cells_str cells_nil cells_nsl cells_isl cells_osl cells_ptr cells_ip cells_fn cells_Wd one_int one_bool one_str one_nil one_nsl one_isl one_osl one_ptr one_ip one_fn one_Wd aSets hupd_eq hupd_ne wrap_i64s wrap_u64s wrap_u32s wrap_u8s wd_getD wd_set wd_len wd_replicate wd_one wd_fold fz_osl hupd_same aSix.eq_def aEqS.eq_def aEqB_bool aEqB_nsl aEqB_nil
attribute [local simp] szT3 byT3 agT3 unT3 zoT3 szT31 byT31 agT31 unT31 zoT31 szT97 byT97 agT97 elT97 unT97 zoT97

set_option maxHeartbeats 8000000 in
theorem divWords_fc (a d : Nat) (hd : d ≠ 0) (la : (mag (a : Int)).length ≤ 68719476736) (lb : (mag (d : Int)).length ≤ 68719476736) : FC Try.prog 118 [Wd .u64 (mag (a : Int)), Wd .u64 (mag (d : Int))] (.tup [Wd .u64 (mag ((a / d : Nat) : Int)), Wd .u64 (mag ((a % d : Nat) : Int))]) := by
  have da := mag_dig (a : Int)
  have dd := mag_dig (d : Int)
  have hcm := cmpI_mag (a : Int) (d : Int)
  rw [Int.natAbs_natCast, Int.natAbs_natCast] at hcm
  refine FC.body Try.func118 rfl (by simp [idfL, idf, idfLL_iff, idf_Wd']) (by simp [idfL, idf, idfLL_iff, idf_Wd']) 326 rfl fun nx K hK => ?_
  refine AWP.seqk fun K1 hK1 => ?_
  refine AWP.region (AOPS.all (by simp (disch := first|omega|(simp only[ln];omega)) [idf_Wd']; rfl) ?_)
  refine hK1 _ ?_
  refine AWP.seqk fun K2 hK2 => ?_
  refine AWP.seqk fun K3 hK3 => ?_
  refine AWP.region ?_
  refine AOPS.runk 2 (by simp (disch := first|omega|(simp only[ln];omega)) [List.take_succ_cons, List.take_zero, idf_Wd']; rfl) ?_
  simp only [List.drop_succ_cons, List.drop_zero]
  refine AOPS.fcall (cmpWords_fc (mag (a : Int)) (mag (d : Int)) (by omega) (by omega)) rfl rfl rfl hb120 (by simp (disch := first|omega|(simp only[ln];omega)) [idf_Wd']) (by simp (disch := first|omega|(simp only[ln];omega))) (by simp) ?_
  simp only [puts_some, updo]
  refine AOPS.all (by simp (disch := first|omega|(simp only[ln];omega)) [idf_Wd']; rfl) ?_
  refine hK3 _ ?_
  refine cond_ok _ (by simp (disch := first|omega|(simp only[ln];omega)); rfl) (fun h34 => ?_) (fun h34 => ?_)
  · try simp only [decide_eq_true_eq, decide_eq_false_iff_not] at h34
    have hlt : a < d := hcm.1.1 (by omega)
    refine AWP.seqk fun K4 hK4 => ?_
    refine AWP.region (AOPS.all (by simp (disch := first|omega|(simp only[ln];omega)) [idf_Wd']; rfl) ?_)
    refine hK4 _ ?_
    refine AWP.ret ?_
    exact hK _ _ _ _ trivial (((Fin.mk (r := .tup [.nsl, Wd .u64 (mag (a : Int))]) (by simp [aRes, aResL, aRes1, idf_Wd'])).weak (r' := .tup [Wd .u64 [], Wd .u64 (mag (a : Int))]) (fun _ _ _ _ h => by
      obtain ⟨vs, rfl, u, r, e, h1, h2⟩ := h
      exact ⟨vs, rfl, u, r, e, nsl_Wd .u64 h1, h2⟩)).cast (by rw [Nat.div_eq_of_lt hlt, Nat.mod_eq_of_lt hlt, show ((0 : Nat) : Int) = 0 from rfl, mag_zero]))
  · try simp only [decide_eq_true_eq, decide_eq_false_iff_not] at h34
    have had : d ≤ a := by
      rcases Nat.lt_or_ge a d with h | h
      · have := hcm.1.2 h; omega
      · exact h
    have hlen : (mag (d : Int)).length ≤ (mag (a : Int)).length := mag_len_mono (by simpa using had)
    have hdl : (mag (d : Int)).length ≠ 0 := by rw [Ne, mag_len0]; omega
    refine AWP.skip ?_
    refine hK2 _ ?_
    refine AWP.seqk fun K5 hK5 => ?_
    refine AWP.region (AOPS.all (by simp (disch := first|omega|(simp only[ln];omega)) [len_Wd (P := Try.prog) #[97] rfl elT97, idf_Wd']; rfl) ?_)
    refine hK5 _ ?_
    refine AWP.seqk fun K6 hK6 => ?_
    refine AWP.seqk fun K7 hK7 => ?_
    refine AWP.region (AOPS.all (by simp (disch := first|omega|(simp only[ln];omega)) [idf_Wd']; rfl) ?_)
    refine hK7 _ ?_
    refine cond_ok _ (by simp (disch := first|omega|(simp only[ln];omega)); rfl) (fun h39 => ?_) (fun h39 => ?_)
    · try simp only [decide_eq_true_eq, decide_eq_false_iff_not] at h39
      have h1l : (mag (d : Int)).length = 1 := by simp at h39; omega
      have hy := mag_one h1l
      have hyg := dd.gt (by omega) 0
      rw [hy] at hyg
      refine AWP.seqk fun K8 hK8 => ?_
      refine AWP.region (AOPS.all (by simp (disch := first|omega|(simp only[ln];omega)) [if_pos, len_Wd (P := Try.prog) #[97] rfl elT97, idf_Wd']; rfl) ?_)
      refine hK8 _ ?_
      refine AWP.seqk fun K9 hK9 => ?_
      refine AWP.seqk fun K10 hK10 => ?_
      refine AWP.region (AOPS.all (by simp (disch := first|omega|(simp only[ln];omega)) [len_Wd (P := Try.prog) #[97] rfl elT97, idf_Wd']; rfl) ?_)
      refine hK10 _ ?_
      refine AWP.block ?_
      refine AWP.loop (fun n s => ∃ (i : Nat) (out : List Int) (r : Int), n = i ∧ i ≤ (mag (a : Int)).length ∧ out.length = (mag (a : Int)).length ∧ Dig 18446744073709551616 out ∧ 0 ≤ r ∧ r < d ∧ val 18446744073709551616 ((mag (a : Int)).drop i) = d * val 18446744073709551616 (out.drop i) + r ∧ s.env 0 = Wd .u64 (mag (a : Int)) ∧ s.env 1 = Wd .u64 (mag (d : Int)) ∧ s.env 7 = .osl nx 0 (mag (a : Int)).length ∧ s.env 8 = .int .u64 r ∧ s.env 9 = .int .i64 ((i : Int) - 1) ∧ s.heap nx = some (1, wd .u64 out) ∧ s.nt = 326) ((mag (a : Int)).length) (⟨(mag (a : Int)).length, List.replicate (mag (a : Int)).length 0, 0, rfl, by omega, by simp, Dig.replicate _ (by omega) (by omega), by omega, by omega, by rw [List.drop_of_length_le (by omega), List.drop_of_length_le (by simp)]; simp [val], by simp, by simp, by simp, by simp, by simp, by simp, rfl⟩) ?_
      rintro n ⟨e, H, m, nt⟩ ⟨i, out, r, rfl, hi, ho, dO, hr0, hr, hv, g0, g1, g7, g8, g9, hH, rfl⟩
      simp only [] at g0 g1 g7 g8 g9 hH
      refine AWP.seqk fun K11 hK11 => ?_
      refine AWP.seqk fun K12 hK12 => ?_
      refine AWP.region (AOPS.all (by simp (disch := first|omega|(simp only[ln];omega)) [idf_Wd', g9]; rfl) ?_)
      refine hK12 _ ?_
      refine cond_ok _ (by simp (disch := first|omega|(simp only[ln];omega)); rfl) (fun h47 => ?_) (fun h47 => ?_)
      · try simp only [decide_eq_true_eq, decide_eq_false_iff_not] at h47
        obtain ⟨i, rfl⟩ : ∃ k, n = k + 1 := ⟨n - 1, by omega⟩
        have e9 : ((i + 1 : Nat) : Int) - 1 = i := by omega
        rw [e9] at g9
        have ga := da.gt (by omega) i
        have st := div1_step da dO (by omega) hr0 hr hv
        refine AWP.skip ?_
        refine hK11 _ ?_
        refine AWP.seqk fun K13 hK13 => ?_
        refine AWP.block ?_
        refine AWP.old fun hold => ?_
        refine AWP.draw 15 Try.checked.mixed (by kernel_rfl) (by simp) ?_
        simp only [List.take_succ_cons, List.take_zero, List.drop_succ_cons, List.drop_zero]
        refine DP.runFk 10 (by simp (disch := first|omega|(simp only[ln];omega)) [runDf.eq_def, runF1, runF2, stepF.eq_def, updo.eq_def, hupo.eq_def, opSto1.eq_def, List.take_succ_cons, List.take_zero, idx_WdD (P := Try.prog) elT97 szT31, if_pos, idf_Wd', g0, g1, g7, g8, g9, hH, ho, hy, h1l, ld_ip agT31]; rfl) fun fs14 hfs14 => ?_
        replace hfs14 : fs14.length = 10 := hfs14.trans rfl
        simp only [List.drop_succ_cons, List.drop_zero]
        refine DP.fcall (div64_fc (hi := r) (lo := gt (mag (a : Int)) i) (y0 := d) hr0 hr ga.1 ga.2 (by omega)) rfl rfl rfl hb147 (by simp (disch := first|omega|(simp only[ln];omega)) [idf_Wd', g0, g1, g7, g8, g9, hH, ho, hy, h1l, ld_ip agT31]) (by simp (disch := first|omega|(simp only[ln];omega)) [g0, g1, g7, g8, g9, hH, ho, hy, h1l, ld_ip agT31]) (by simp) ?_
        simp only [updo]
        refine DP.runFk 2 (by simp (disch := first|omega|(simp only[ln];omega)) [runDf.eq_def, runF1, runF2, stepF.eq_def, updo.eq_def, hupo.eq_def, opSto1.eq_def, List.take_succ_cons, List.take_zero, idx_WdD (P := Try.prog) elT97 szT31, if_pos, idf_Wd', g0, g1, g7, g8, g9, hH, ho, hy, h1l, ld_ip agT31]; rfl) fun fs15 hfs15 => ?_
        replace hfs15 : fs15.length = 2 := hfs15.trans rfl
        simp only [List.drop_succ_cons, List.drop_zero]
        refine DP.runF1q (by simp (disch := first|omega|(simp only[ln];omega)) [runDf.eq_def, runF1, runF2, stepF.eq_def, updo.eq_def, hupo.eq_def, opSto1.eq_def, idx_WdD (P := Try.prog) elT97 szT31, if_pos, idf_Wd', g0, g1, g7, g8, g9, hH, ho, hy, h1l, ld_ip agT31]; rfl) fun fq16 hfq16 => ?_
        replace hfq16 : fq16.q = [] := by rw [hfq16]; simp [qids, Op.operands, topId]
        simp only [updo]
        refine DP.runFk 1 (by simp (disch := first|omega|(simp only[ln];omega)) [runDf.eq_def, runF1, runF2, stepF.eq_def, updo.eq_def, hupo.eq_def, opSto1.eq_def, List.take_succ_cons, List.take_zero, idx_WdD (P := Try.prog) elT97 szT31, if_pos, idf_Wd', g0, g1, g7, g8, g9, hH, ho, hy, h1l, ld_ip agT31]; rfl) fun fs17 hfs17 => ?_
        replace hfs17 : fs17.length = 1 := hfs17.trans rfl
        simp only [List.drop_succ_cons, List.drop_zero]
        refine DQ.runG (m := 15) [13] (by simp only [List.length_append, List.length_cons, List.length_nil, hfs14, hfs15, hfs17]; omega) (by intro k f hk hex; simp only [List.mem_cons, List.not_mem_nil, or_false] at hex; rcases hex with rfl <;> (simp [List.getElem?_append, hfs14, hfs15, hfs17] at hk; subst hk; assumption)) _ _ _ (fun id q h j hj => by have := hold id q h; simp at hj; omega) (by kernel_rfl) rfl (by simp (disch := first|omega|(simp only[ln];omega)) [runDf.eq_def, runF1, runF2, stepF.eq_def, updo.eq_def, hupo.eq_def, opSto1.eq_def, idx_WdD (P := Try.prog) elT97 szT31, if_pos, idf_Wd', g0, g1, g7, g8, g9, hH, ho, hy, h1l, ld_ip agT31]; rfl) ?_
        refine hK13 _ ?_
        refine AWP.region (AOPS.all (by simp (disch := first|omega|(simp only[ln];omega)) [idf_Wd', g9]; rfl) ?_)
        refine ⟨i, by omega, i, out.set i ((r * 18446744073709551616 + gt (mag (a : Int)) i) / d), (r * 18446744073709551616 + gt (mag (a : Int)) i) % d, rfl, by omega, by simp [ho], dO.set _ st.1 st.2.1, st.2.2.1, st.2.2.2.1, st.2.2.2.2, by simp [g0], by simp [g1], by simp [g7], by simp, by simp [g9], by simp, rfl⟩
      · try simp only [decide_eq_true_eq, decide_eq_false_iff_not] at h47
        obtain rfl : n = 0 := by omega
        obtain ⟨f1, f2⟩ := div1_fin hr0 hr hv
        have hr1 : Dig 18446744073709551616 [r] := Dig.cons hr0 (by omega) (Dig.nil _)
        have t1 : trimW out = mag ((a / d : Nat) : Int) := by rw [mag_of dO, f1]
        have t2 : trimW [r] = mag ((a % d : Nat) : Int) := by rw [mag_of hr1]; simp only [val, Int.mul_zero, Int.add_zero]; rw [f2]
        refine AWP.exit ?_
        refine hK9 _ ?_
        refine AWP.seqk fun K18 hK18 => ?_
        refine AWP.region ?_
        refine AOPS.runk 1 (by simp (disch := first|omega|(simp only[ln];omega)) [List.take_succ_cons, List.take_zero, idf_Wd', g7, g8]; rfl) ?_
        simp only [List.drop_succ_cons, List.drop_zero]
        refine AOPS.frz1 65 nx 1 (wd .u64 out) (Wd .u64 out) (by simp [hH]) (by simp [g7, ← ho]; first | exact fz_wd rfl | exact isl_take_wd (Nat.le_refl _)) ?_
        refine AOPS.fcall (trim_fc out (by omega)) rfl rfl rfl hb113 (by simp (disch := first|omega|(simp only[ln];omega)) [idf_Wd', g7, g8]) (by simp (disch := first|omega|(simp only[ln];omega)) [g7, g8]) (by simp) ?_
        simp only [puts_some, updo]
        refine AOPS.runk 2 (by simp (disch := first|omega|(simp only[ln];omega)) [List.take_succ_cons, List.take_zero, idf_Wd', g7, g8]; rfl) ?_
        simp only [List.drop_succ_cons, List.drop_zero]
        refine AOPS.frz1 68 m 1 (wd .u64 [r]) (Wd .u64 [r]) (by simp) (by simp; first | exact fz_wd rfl | exact isl_take_wd (by simp)) ?_
        refine AOPS.fcall (trim_fc [r] (by simp)) rfl rfl rfl hb113 (by simp (disch := first|omega|(simp only[ln];omega)) [idf_Wd', g7, g8]) (by simp (disch := first|omega|(simp only[ln];omega)) [g7, g8]) (by simp) ?_
        simp only [puts_some, updo]
        refine AOPS.all (by simp (disch := first|omega|(simp only[ln];omega)) [idf_Wd', g7, g8]; rfl) ?_
        refine hK18 _ ?_
        refine AWP.ret ?_
        exact hK _ _ _ _ trivial ((Fin.mk (r := .tup [Wd .u64 (trimW out), Wd .u64 (trimW [r])]) (by simp [aRes, aResL, aRes1, idf_Wd'])).cast (by rw [t1, t2]))
    · try simp only [decide_eq_true_eq, decide_eq_false_iff_not] at h39
      have h1l : (mag (d : Int)).length ≠ 1 := by simp at h39; omega
      obtain ⟨m, hm⟩ : ∃ m, (mag (d : Int)).length = m + 2 := ⟨(mag (d : Int)).length - 2, by omega⟩
      obtain ⟨t, k, p, Vl, ht, htB, hbl, hk, rfl, hp0, hVl, dV, lV, vV, tV, hVB, _, hK0⟩ := dw_init had hm
      obtain ⟨J, hJ⟩ : ∃ J, (mag (a : Int)).length = J + (m + 2) := ⟨(mag (a : Int)).length - (m + 2), by omega⟩
      rw [hJ, Nat.add_sub_cancel] at hK0
      obtain ⟨n, hn⟩ : ∃ n, n = m + 2 := ⟨_, rfl⟩
      have hp1 : (1 : Int) ≤ 2 ^ k := by omega
      have hsa := shS_len da hp1 (Nat.le_refl (mag (a : Int)).length)
      have hsd := shS_len dd hp1 (Nat.le_refl (mag (d : Int)).length)
      have hsa' : (shW (mag (a : Int)) (2 ^ k)).length = J + n + 1 := by unfold shW; omega
      have hsd' : (shW (mag (d : Int)) (2 ^ k)).length = n + 1 := by unfold shW; omega
      have x4 : TN (((n : Int) - 1).toNat) (m + 1) := TN.i (by omega)
      have x5 : TN (((n : Int) - 2).toNat) (m) := TN.i (by omega)
      have hdn : (mag (d : Int)).length = n := by omega
      have han : (mag (a : Int)).length = J + n := by omega
      have eJ : ((J + n : Nat) : Int) - (n : Int) = J := by omega
      have eJ2 : (J : Int) + (n : Int) - (n : Int) = J := by omega
      have eJ3 : TN (((J : Int) + 1).toNat) (J + 1) := TN.i (by omega)
      have wb : (64 : Int) - (bitLen t : Int) = k := by omega
      rw [← hn] at lV
      have hPm := powB_pos m
      have c64 : (k : Int) ≤ 64 := by omega
      have hmk : TN (min k 64) (k) := TN.i (by omega)
      have hmk2 : TN (min (64 - k) 64) (64 - k) := TN.i (by omega)
      have fdk : ∀ x : Int, x.fdiv (2 ^ k) = x / 2 ^ k := fun x => Int.fdiv_eq_ediv_of_nonneg _ (Int.le_of_lt hp0)
      refine AWP.skip ?_
      refine hK6 _ ?_
      refine AWP.seqk fun K19 hK19 => ?_
      refine AWP.region ?_
      refine AOPS.runk 5 (by simp (disch := first|omega|(simp only[ln];omega)) [List.take_succ_cons, List.take_zero, idx_WdD (P := Try.prog) elT97 szT31, if_pos, idf_Wd', hdn, x4.e, ht, wb, ld_ip agT31]; rfl) ?_
      simp only [List.drop_succ_cons, List.drop_zero]
      refine AOPS.fcall (lz64_fc t htB) rfl rfl rfl hb146 (by simp (disch := first|omega|(simp only[ln];omega)) [idf_Wd', hdn, x4.e, ht, wb, ld_ip agT31]) (by simp (disch := first|omega|(simp only[ln];omega)) [hdn, x4.e, ht, wb, ld_ip agT31]) (by simp) ?_
      simp only [puts_some, updo]
      refine AOPS.all (by simp (disch := first|omega|(simp only[ln];omega)) [idx_WdD (P := Try.prog) elT97 szT31, if_pos, idf_Wd', hdn, x4.e, ht, wb, ld_ip agT31]; rfl) ?_
      refine hK19 _ ?_
      refine AWP.seqk fun K20 hK20 => ?_
      refine AWP.draw 8 Try.checked.mixed (by kernel_rfl) (by simp) ?_
      simp only [List.take_succ_cons, List.take_zero, List.drop_succ_cons, List.drop_zero]
      refine DP.runFk 2 (by simp (disch := first|omega|(simp only[ln];omega)) [runDf.eq_def, runF1, runF2, stepF.eq_def, updo.eq_def, hupo.eq_def, opSto1.eq_def, List.take_succ_cons, List.take_zero, if_pos, idf_Wd', hsa', hsd', wd_len]; rfl) fun fs21 hfs21 => ?_
      replace hfs21 : fs21.length = 2 := hfs21.trans rfl
      simp only [List.drop_succ_cons, List.drop_zero]
      refine DP.ocall (shifted_fo (mag (d : Int)) k dd hk (by omega)) rfl rfl rfl hb148 (by simp (disch := first|omega|(simp only[ln];omega)) [idf_Wd', hsa', hsd', wd_len]) (by simp (disch := first|omega|(simp only[ln];omega)) [hsa', hsd', wd_len]) (by simp) ?_
      simp only [updo]
      refine DP.runFk 4 (by simp (disch := first|omega|(simp only[ln];omega)) [runDf.eq_def, runF1, runF2, stepF.eq_def, updo.eq_def, hupo.eq_def, opSto1.eq_def, List.take_succ_cons, List.take_zero, if_pos, idf_Wd', hsa', hsd', wd_len]; rfl) fun fs22 hfs22 => ?_
      replace hfs22 : fs22.length = 4 := hfs22.trans rfl
      simp only [List.drop_succ_cons, List.drop_zero]
      refine DP.ocall (shifted_fo (mag (a : Int)) k da hk (by omega)) rfl rfl rfl hb148 (by simp (disch := first|omega|(simp only[ln];omega)) [idf_Wd', hsa', hsd', wd_len]) (by simp (disch := first|omega|(simp only[ln];omega)) [hsa', hsd', wd_len]) (by simp) ?_
      simp only [updo]
      refine DQ.runF (m := 8) (by simp only [List.length_append, List.length_cons, List.length_nil, hfs21, hfs22]; omega) _ _ _ (by kernel_rfl) rfl (by simp (disch := first|omega|(simp only[ln];omega)) [runDf.eq_def, runF1, runF2, stepF.eq_def, updo.eq_def, hupo.eq_def, opSto1.eq_def, if_pos, idf_Wd', hsa', hsd', wd_len]; rfl) ?_
      refine hK20 _ ?_
      refine AWP.seqk fun K23 hK23 => ?_
      refine AWP.frz1 11 (nx + 2) 1 (wd .u64 (shW (mag (d : Int)) (2 ^ k))) (Wd .u64 Vl) (by simp (disch := omega)) (by simp; rw [fz_wdt (by omega), hVl, hn]) ?_
      refine AWP.region (AOPS.all (by simp (disch := first|omega|(simp only[ln];omega)) [if_pos, len_Wd (P := Try.prog) #[97] rfl elT97, idf_Wd', han, eJ, eJ2]; rfl) ?_)
      refine hK23 _ ?_
      refine AWP.seqk fun K24 hK24 => ?_
      refine AWP.seqk fun K25 hK25 => ?_
      refine AWP.region (AOPS.all (by simp (disch := first|omega|(simp only[ln];omega)) [len_Wd (P := Try.prog) #[97] rfl elT97, idf_Wd', han, eJ, eJ2]; rfl) ?_)
      refine hK25 _ ?_
      refine AWP.block ?_
      obtain ⟨iu, hiu⟩ : ∃ iu, iu = nx + 7 := ⟨_, rfl⟩
      obtain ⟨io, hio⟩ : ∃ io, io = nx + 10 := ⟨_, rfl⟩
      have hne : iu ≠ io := by omega
      refine AWP.loop (fun N s => ∃ (j : Nat) (u out : List Int), N = j ∧ j ≤ J + 1 ∧ Kn ((a : Int) * 2 ^ k) ((d : Int) * 2 ^ k) u out j ∧ u.length = J + n + 1 ∧ out.length = J + 1 ∧ s.env 6 = .int .i64 (n : Int) ∧ s.env 10 = .int .i64 (k : Int) ∧ s.env 11 = Wd .u64 Vl ∧ s.env 12 = .osl iu 0 (J + n + 1) ∧ s.env 13 = .osl io 0 (J + 1) ∧ s.env 14 = .int .i64 ((j : Int) - 1) ∧ s.heap iu = some (1, wd .u64 u) ∧ s.heap io = some (1, wd .u64 out) ∧ s.nt = 326) (J + 1) (⟨J + 1, shW (mag (a : Int)) (2 ^ k), List.replicate (J + 1) 0, rfl, by omega, hK0, hsa', by simp, by simp, by simp, by simp, by simp (disch := omega) [hiu, hsa', wd_len], by simp (disch := omega) [hio, eJ3.e], by simp, by simp (disch := omega) [hiu], by simp (disch := omega) [hio, eJ3.e], rfl⟩) ?_
      clear hcm h34 had hlen hdl h39 h1l hm ht htB hbl tV hJ hsa hsd hsa' hsd' eJ eJ2 eJ3 wb hK0 lb hdn
      rintro N ⟨e, H, mm, nt⟩ ⟨j, u, out, rfl, hj, hKn, hul, hol, h6, h10, h11, h12, h13, h14, hU, hO, rfl⟩
      simp only [] at h6 h10 h11 h12 h13 h14 hU hO
      refine AWP.seqk fun K26 hK26 => ?_
      refine AWP.seqk fun K27 hK27 => ?_
      refine AWP.region (AOPS.all (by simp (disch := first|omega|(simp only[ln];omega)) [idf_Wd', h14]; rfl) ?_)
      refine hK27 _ ?_
      refine cond_ok _ (by simp (disch := first|omega|(simp only[ln];omega)); rfl) (fun h95 => ?_) (fun h95 => ?_)
      · try simp only [decide_eq_true_eq, decide_eq_false_iff_not] at h95
        obtain ⟨j, rfl⟩ : ∃ k, N = k + 1 := ⟨N - 1, by omega⟩
        have e14 : ((j + 1 : Nat) : Int) - 1 = j := by omega
        rw [e14] at h14
        have hz := hKn.top (n := n) (by rw [hn]; exact hVB)
        have hw := win_lt hKn.dig (j := j) (m := m) (by rw [← hn]; exact hz)
        have hwd := hKn.wide
        have tg := top_ge dV (m := m)
        rw [vV] at tg
        have g1 := hKn.dig.gt (by omega) (j + m + 2)
        have g2 := hKn.dig.gt (by omega) (j + m + 1)
        have g3 := hKn.dig.gt (by omega) (j + m)
        have gv1 := dV.gt (by omega) (m + 1)
        have gv2 := dV.gt (by omega) m
        have x1 : TN (((j : Int) + (n : Int)).toNat) (j + m + 2) := TN.i (by omega)
        have x2 : TN (((j : Int) + (n : Int) - 1).toNat) (j + m + 1) := TN.i (by omega)
        have x3 : TN (((j : Int) + (n : Int) - 2).toNat) (j + m) := TN.i (by omega)
        have x7 : TN (((j : Int) + (n : Int)).toNat) (j + n) := TN.i (by omega)
        have hjo : j < J + 1 := by omega
        have hW0 := val_nonneg (hKn.dig.drop j)
        refine AWP.skip ?_
        refine hK26 _ ?_
        refine AWP.seqk fun K28 hK28 => ?_
        refine AWP.block ?_
        refine AWP.seqk fun K29 hK29 => ?_
        refine AWP.region (AOPS.all (by simp (disch := first|omega|(simp only[ln];omega)) [idf_Wd']; rfl) ?_)
        refine hK29 _ ?_
        refine AWP.seqk fun K30 hK30 => ?_
        have J30 : ∀ s : St, (∃ q : Int, 0 ≤ q ∧ q < 18446744073709551616 ∧ val 18446744073709551616 (u.drop j) < (q + 1) * ((d : Int) * 2 ^ k) ∧ s.env 6 = .int .i64 (n : Int) ∧ s.env 10 = .int .i64 (k : Int) ∧ s.env 11 = Wd .u64 Vl ∧ s.env 12 = .osl iu 0 (J + n + 1) ∧ s.env 13 = .osl io 0 (J + 1) ∧ s.env 14 = .int .i64 (j : Int) ∧ s.env 15 = .int .u64 q ∧ s.heap iu = some (1, wd .u64 u) ∧ s.heap io = some (1, wd .u64 out) ∧ s.nt = 326) → K30 s := by
          clear h6 h10 h11 h12 h13 h14 hU hO hw hwd tg g1 g2 g3 gv1 gv2
          rintro ⟨e, H, mm, nt⟩ ⟨q, q0, qB, qlt, h6, h10, h11, h12, h13, h14, h15, hU, hO, rfl⟩
          simp only [] at h6 h10 h11 h12 h13 h14 h15 hU hO
          refine hK30 _ ?_
          refine AWP.seqk fun K31 hK31 => ?_
          refine AWP.region (AOPS.all (by simp (disch := first|omega|(simp only[ln];omega)) [idf_Wd']; rfl) ?_)
          refine hK31 _ ?_
          refine AWP.seqk fun K32 hK32 => ?_
          refine AWP.seqk fun K33 hK33 => ?_
          refine AWP.region (AOPS.all (by simp (disch := first|omega|(simp only[ln];omega)) [idf_Wd', h6]; rfl) ?_)
          refine hK33 _ ?_
          refine AWP.block ?_
          refine AWP.loop (fun N s => ∃ (i : Nat) (u1 : List Int) (br c : Int), N = n - i ∧ i ≤ n ∧ Win u u1 j n (-(q * val 18446744073709551616 (Vl.take i)) + (18446744073709551616 : Int) ^ i * (br + c)) ∧ 0 ≤ br ∧ br ≤ 1 ∧ 0 ≤ c ∧ c < 18446744073709551616 ∧ s.env 6 = .int .i64 (n : Int) ∧ s.env 10 = .int .i64 (k : Int) ∧ s.env 11 = Wd .u64 Vl ∧ s.env 12 = .osl iu 0 (J + n + 1) ∧ s.env 13 = .osl io 0 (J + 1) ∧ s.env 14 = .int .i64 (j : Int) ∧ s.env 15 = .int .u64 q ∧ s.env 20 = .int .u64 br ∧ s.env 21 = .int .u64 c ∧ s.env 175 = .int .i64 (n : Int) ∧ s.env 176 = .int .i64 (i : Int) ∧ s.heap iu = some (1, wd .u64 u1) ∧ s.heap io = some (1, wd .u64 out) ∧ s.nt = 326) (n) (⟨0, u, 0, 0, by omega, by omega, (Win.refl hKn.dig j n).cast (by simp [val]), by omega, by omega, by omega, by omega, by simp [h6], by simp [h10], by simp [h11], by simp [h12], by simp [h13], by simp [h14], by simp [h15], by simp, by simp, by simp, by simp, by simp (disch := omega) [hU], by simp (disch := omega) [hO], rfl⟩) ?_
          clear h6 h10 h11 h12 h13 h14 h15 hU hO
          rintro N ⟨e, H, mm, nt⟩ ⟨i, u1, br, c, rfl, hi, w, br0, br1, c0, cB, h6, h10, h11, h12, h13, h14, h15, h20, h21, h175, h176, hU, hO, rfl⟩
          simp only [] at h6 h10 h11 h12 h13 h14 h15 h20 h21 h175 h176 hU hO
          have hu1 : u1.length = J + n + 1 := w.len.trans hul
          refine AWP.seqk fun K34 hK34 => ?_
          refine AWP.region (AOPS.all (by simp (disch := first|omega|(simp only[ln];omega)) [idf_Wd', h175, h176]; rfl) ?_)
          refine hK34 _ ?_
          refine AWP.seqk fun K35 hK35 => ?_
          refine cond_ok _ (by simp (disch := first|omega|(simp only[ln];omega)); rfl) (fun h177 => ?_) (fun h177 => ?_)
          · try simp only [decide_eq_true_eq, decide_eq_false_iff_not] at h177
            have hi' : i < n := by omega
            have ws := win_sub w hi (by omega) dV q0 qB br0 br1 c0 cB
            have gvi := dV.gt (by omega) i
            have gui := w.dig.gt (by omega) (j + i)
            have x6 : TN (((j : Int) + (i : Int)).toNat) (j + i) := TN.i (by omega)
            have wm0 := ws.1
            have wm1 := ws.2.1
            have wm2 := ws.2.2.1
            refine AWP.skip ?_
            refine hK35 _ ?_
            refine AWP.seqk fun K36 hK36 => ?_
            refine AWP.block ?_
            refine AWP.seqk fun K37 hK37 => ?_
            refine AWP.region (AOPS.all (by simp (disch := first|omega|(simp only[ln];omega)) [idf_Wd', h176]; rfl) ?_)
            refine hK37 _ ?_
            refine AWP.seqk fun K38 hK38 => ?_
            refine AWP.region ?_
            refine AOPS.runk 5 (by simp (disch := first|omega|(simp only[ln];omega)) [List.take_succ_cons, List.take_zero, idx_WdD (P := Try.prog) elT97 szT31, if_pos, idf_Wd', h11, h15, lV, ld_ip agT31]; rfl) ?_
            simp only [List.drop_succ_cons, List.drop_zero]
            refine AOPS.fcall (mul64_fc q (gt Vl i) q0 qB gvi.1 gvi.2) rfl rfl rfl hb116 (by simp (disch := first|omega|(simp only[ln];omega)) [idf_Wd', h11, h15, lV, ld_ip agT31]) (by simp (disch := first|omega|(simp only[ln];omega)) [h11, h15, lV, ld_ip agT31]) (by simp) ?_
            simp only [puts_some, updo]
            refine AOPS.all (by simp (disch := first|omega|(simp only[ln];omega)) [idx_WdD (P := Try.prog) elT97 szT31, if_pos, idf_Wd', h11, h15, lV, ld_ip agT31]; rfl) ?_
            refine hK38 _ ?_
            refine AWP.seqk fun K39 hK39 => ?_
            refine AWP.region (AOPS.all (by simp (disch := first|omega|(simp only[ln];omega)) [idf_Wd']; rfl) ?_)
            refine hK39 _ ?_
            refine AWP.seqk fun K40 hK40 => ?_
            refine AWP.region ?_
            refine AOPS.runk 2 (by simp (disch := first|omega|(simp only[ln];omega)) [List.take_succ_cons, List.take_zero, idf_Wd', h21]; rfl) ?_
            simp only [List.drop_succ_cons, List.drop_zero]
            refine AOPS.ecall (FE.add64 nb117 (q * gt Vl i % 18446744073709551616) c 0 (by omega) c0 (by omega) (by omega)) rfl rfl rfl (by simp (disch := first|omega|(simp only[ln];omega)) [idf_Wd', h21]) (by simp (disch := first|omega|(simp only[ln];omega)) [h21]) (by simp) ?_
            simp only [puts_some, updo]
            refine AOPS.all (by simp (disch := first|omega|(simp only[ln];omega)) [idf_Wd', h21]; rfl) ?_
            refine hK40 _ ?_
            refine AWP.seqk fun K41 hK41 => ?_
            refine AWP.region (AOPS.all (by simp (disch := first|omega|(simp only[ln];omega)) [idf_Wd']; rfl) ?_)
            refine hK41 _ ?_
            refine AWP.region ?_
            refine AOPS.runk 12 (by simp (disch := first|omega|(simp only[ln];omega)) [List.take_succ_cons, List.take_zero, idx_WdD (P := Try.prog) elT97 szT31, if_pos, idf_Wd', h12, h14, h20, hU, x6.e, hu1, ld_ip agT31]; rfl) ?_
            simp only [List.drop_succ_cons, List.drop_zero]
            refine AOPS.ecall (FE.sub64 nb149 (gt u1 (j + i)) ((q * gt Vl i % 18446744073709551616 + c) % 18446744073709551616) br gui.1 (Int.emod_nonneg _ (by omega)) (Int.emod_lt_of_pos _ (by omega)) br0 br1) rfl rfl rfl (by simp (disch := first|omega|(simp only[ln];omega)) [idf_Wd', h12, h14, h20, hU, x6.e, hu1, ld_ip agT31]) (by simp (disch := first|omega|(simp only[ln];omega)) [h12, h14, h20, hU, x6.e, hu1, ld_ip agT31]) (by simp) ?_
            simp only [puts_some, updo]
            refine AOPS.all (by simp (disch := first|omega|(simp only[ln];omega)) [idx_WdD (P := Try.prog) elT97 szT31, if_pos, idf_Wd', h12, h14, h20, hU, x6.e, hu1, ld_ip agT31]; rfl) ?_
            refine hK36 _ ?_
            refine AWP.region (AOPS.all (by simp (disch := first|omega|(simp only[ln];omega)) [idf_Wd', h176]; rfl) ?_)
            refine ⟨n - (i + 1), by omega, i + 1, u1.set (j + i) ((gt u1 (j + i) - (q * gt Vl i % 18446744073709551616 + c) % 18446744073709551616 - br) % 18446744073709551616), _, _, rfl, by omega, ws.2.2.2, by split <;> omega, by split <;> omega, ws.2.1, ws.2.2.1, by simp [h6], by simp [h10], by simp [h11], by simp [h12], by simp [h13], by simp [h14], by simp [h15], by simp, by simp, by simp [h175], by simp (disch := omega) [h176], by simp (disch := omega) [hU], by simp (disch := omega) [hO], rfl⟩
          · try simp only [decide_eq_true_eq, decide_eq_false_iff_not] at h177
            have hin : i = n := by omega
            rw [hin, val_take_all (by omega), vV] at w
            have wl := win_sub_last w (by omega) br0 br1 c0 cB
            have gun := w.dig.gt (by omega) (j + n)
            refine AWP.exit ?_
            refine hK32 _ ?_
            refine AWP.seqk fun K42 hK42 => ?_
            refine AWP.region ?_
            refine AOPS.runk 12 (by simp (disch := first|omega|(simp only[ln];omega)) [List.take_succ_cons, List.take_zero, idx_WdD (P := Try.prog) elT97 szT31, if_pos, idf_Wd', h6, h12, h14, h20, h21, hU, x7.e, hu1, ld_ip agT31]; rfl) ?_
            simp only [List.drop_succ_cons, List.drop_zero]
            refine AOPS.ecall (FE.sub64 nb149 (gt u1 (j + n)) c br gun.1 c0 cB br0 br1) rfl rfl rfl (by simp (disch := first|omega|(simp only[ln];omega)) [idf_Wd', h6, h12, h14, h20, h21, hU, x7.e, hu1, ld_ip agT31]) (by simp (disch := first|omega|(simp only[ln];omega)) [h6, h12, h14, h20, h21, hU, x7.e, hu1, ld_ip agT31]) (by simp) ?_
            simp only [puts_some, updo]
            refine AOPS.all (by simp (disch := first|omega|(simp only[ln];omega)) [idx_WdD (P := Try.prog) elT97 szT31, if_pos, idf_Wd', h6, h12, h14, h20, h21, hU, x7.e, hu1, ld_ip agT31]; rfl) ?_
            refine hK42 _ ?_
            refine AWP.seqk fun K43 hK43 => ?_
            refine AWP.block ?_
            refine AWP.loop (fun N s => ∃ (q : Int) (u1 : List Int) (br : Int), N = q.toNat ∧ Win u u1 j n (-(q * ((d : Int) * 2 ^ k)) + (18446744073709551616 : Int) ^ (n + 1) * br) ∧ val 18446744073709551616 (u.drop j) < (q + 1) * ((d : Int) * 2 ^ k) ∧ 0 ≤ q ∧ q < 18446744073709551616 ∧ (br = 0 ∨ br = 1) ∧ s.env 6 = .int .i64 (n : Int) ∧ s.env 10 = .int .i64 (k : Int) ∧ s.env 11 = Wd .u64 Vl ∧ s.env 12 = .osl iu 0 (J + n + 1) ∧ s.env 13 = .osl io 0 (J + 1) ∧ s.env 14 = .int .i64 (j : Int) ∧ s.env 15 = .int .u64 q ∧ s.env 20 = .int .u64 br ∧ s.heap iu = some (1, wd .u64 u1) ∧ s.heap io = some (1, wd .u64 out) ∧ s.nt = 326) (q.toNat) (⟨q, u1.set (j + n) ((gt u1 (j + n) - c - br) % 18446744073709551616), (if gt u1 (j + n) < c + br then 1 else 0), rfl, wl, qlt, q0, qB, by split <;> simp, by simp [h6], by simp [h10], by simp [h11], by simp [h12], by simp [h13], by simp [h14], by simp [h15], by simp, by simp (disch := omega) [hU], by simp (disch := omega) [hO], rfl⟩) ?_
            clear h6 h10 h11 h12 h13 h14 h15 h20 h21 h175 h176 hU hO hu1 wl gun w qlt q0 qB
            rintro N ⟨e, H, mm, nt⟩ ⟨q, u1, br, rfl, w, qlt, q0, qB, hbr, h6, h10, h11, h12, h13, h14, h15, h20, hU, hO, rfl⟩
            simp only [] at h6 h10 h11 h12 h13 h14 h15 h20 hU hO
            have hu1 : u1.length = J + n + 1 := w.len.trans hul
            refine AWP.seqk fun K44 hK44 => ?_
            refine AWP.seqk fun K45 hK45 => ?_
            refine AWP.region (AOPS.all (by simp (disch := first|omega|(simp only[ln];omega)) [idf_Wd', h20]; rfl) ?_)
            refine hK45 _ ?_
            refine cond_ok _ (by simp (disch := first|omega|(simp only[ln];omega)); rfl) (fun h233 => ?_) (fun h233 => ?_)
            · try simp only [decide_eq_true_eq, decide_eq_false_iff_not] at h233
              have hb1 : br = 1 := by simpa using h233
              subst hb1
              rw [Int.mul_one] at w
              have wlt := w.lt hz
              have hneg : val 18446744073709551616 (u.drop j) < q * ((d : Int) * 2 ^ k) := by omega
              have hq1 : 1 ≤ q := by
                rcases Int.lt_or_le q 1 with h | h
                · have : q = 0 := by omega
                  subst this; omega
                · exact h
              refine AWP.skip ?_
              refine hK44 _ ?_
              refine AWP.block ?_
              refine AWP.seqk fun K46 hK46 => ?_
              refine AWP.region (AOPS.all (by simp (disch := first|omega|(simp only[ln];omega)) [idf_Wd', h15]; rfl) ?_)
              refine hK46 _ ?_
              refine AWP.seqk fun K47 hK47 => ?_
              refine AWP.region (AOPS.all (by simp (disch := first|omega|(simp only[ln];omega)) [idf_Wd']; rfl) ?_)
              refine hK47 _ ?_
              refine AWP.seqk fun K48 hK48 => ?_
              refine AWP.seqk fun K49 hK49 => ?_
              refine AWP.region (AOPS.all (by simp (disch := first|omega|(simp only[ln];omega)) [idf_Wd', h6]; rfl) ?_)
              refine hK49 _ ?_
              refine AWP.block ?_
              refine AWP.loop (fun N s => ∃ (i : Nat) (u2 : List Int) (c : Int), N = n - i ∧ i ≤ n ∧ Win u u2 j n (-(q * ((d : Int) * 2 ^ k)) + (18446744073709551616 : Int) ^ (n + 1) + val 18446744073709551616 (Vl.take i) - (18446744073709551616 : Int) ^ i * c) ∧ 0 ≤ c ∧ c ≤ 1 ∧ s.env 6 = .int .i64 (n : Int) ∧ s.env 10 = .int .i64 (k : Int) ∧ s.env 11 = Wd .u64 Vl ∧ s.env 12 = .osl iu 0 (J + n + 1) ∧ s.env 13 = .osl io 0 (J + 1) ∧ s.env 14 = .int .i64 (j : Int) ∧ s.env 15 = .int .u64 (q - 1) ∧ s.env 20 = .int .u64 1 ∧ s.env 26 = .int .u64 c ∧ s.env 236 = .int .i64 (n : Int) ∧ s.env 237 = .int .i64 (i : Int) ∧ s.heap iu = some (1, wd .u64 u2) ∧ s.heap io = some (1, wd .u64 out) ∧ s.nt = 326) (n) (⟨0, u1, 0, by omega, by omega, w.cast (by simp [val]), by omega, by omega, by simp [h6], by simp [h10], by simp [h11], by simp [h12], by simp [h13], by simp [h14], by simp, by simp [h20], by simp, by simp, by simp, by simp (disch := omega) [hU], by simp (disch := omega) [hO], rfl⟩) ?_
              clear h6 h10 h11 h12 h13 h14 h15 h20 hU hO hu1
              rintro N ⟨e, H, mm, nt⟩ ⟨i, u2, c, rfl, hi, w2, c0, c1, h6, h10, h11, h12, h13, h14, h15, h20, h26, h236, h237, hU, hO, rfl⟩
              simp only [] at h6 h10 h11 h12 h13 h14 h15 h20 h26 h236 h237 hU hO
              have hu2 : u2.length = J + n + 1 := w2.len.trans hul
              refine AWP.seqk fun K50 hK50 => ?_
              refine AWP.region (AOPS.all (by simp (disch := first|omega|(simp only[ln];omega)) [idf_Wd', h236, h237]; rfl) ?_)
              refine hK50 _ ?_
              refine AWP.seqk fun K51 hK51 => ?_
              refine cond_ok _ (by simp (disch := first|omega|(simp only[ln];omega)); rfl) (fun h238 => ?_) (fun h238 => ?_)
              · try simp only [decide_eq_true_eq, decide_eq_false_iff_not] at h238
                have hi' : i < n := by omega
                have ws := win_add w2 hi (by omega) dV c0 c1
                have gvi := dV.gt (by omega) i
                have gui := w2.dig.gt (by omega) (j + i)
                have x6 : TN (((j : Int) + (i : Int)).toNat) (j + i) := TN.i (by omega)
                refine AWP.skip ?_
                refine hK51 _ ?_
                refine AWP.seqk fun K52 hK52 => ?_
                refine AWP.block ?_
                refine AWP.seqk fun K53 hK53 => ?_
                refine AWP.region (AOPS.all (by simp (disch := first|omega|(simp only[ln];omega)) [idf_Wd', h237]; rfl) ?_)
                refine hK53 _ ?_
                refine AWP.old fun hold => ?_
                refine AWP.draw 20 Try.checked.mixed (by kernel_rfl) (by simp) ?_
                simp only [List.take_succ_cons, List.take_zero, List.drop_succ_cons, List.drop_zero]
                refine DP.runFk 15 (by simp (disch := first|omega|(simp only[ln];omega)) [runDf.eq_def, runF1, runF2, stepF.eq_def, updo.eq_def, hupo.eq_def, opSto1.eq_def, List.take_succ_cons, List.take_zero, idx_WdD (P := Try.prog) elT97 szT31, if_pos, idf_Wd', h11, h12, h14, h26, hU, x6.e, hu2, lV, ld_ip agT31]; rfl) fun fs54 hfs54 => ?_
                replace hfs54 : fs54.length = 15 := hfs54.trans rfl
                simp only [List.drop_succ_cons, List.drop_zero]
                refine DP.ecall (FE.add64 nb117 (gt u2 (j + i)) (gt Vl i) c gui.1 gvi.1 c0 c1) rfl rfl rfl (by simp (disch := first|omega|(simp only[ln];omega)) [idf_Wd', h11, h12, h14, h26, hU, x6.e, hu2, lV, ld_ip agT31]) (by simp (disch := first|omega|(simp only[ln];omega)) [h11, h12, h14, h26, hU, x6.e, hu2, lV, ld_ip agT31]) (by simp) ?_
                simp only [updo]
                refine DP.runFk 2 (by simp (disch := first|omega|(simp only[ln];omega)) [runDf.eq_def, runF1, runF2, stepF.eq_def, updo.eq_def, hupo.eq_def, opSto1.eq_def, List.take_succ_cons, List.take_zero, idx_WdD (P := Try.prog) elT97 szT31, if_pos, idf_Wd', h11, h12, h14, h26, hU, x6.e, hu2, lV, ld_ip agT31]; rfl) fun fs55 hfs55 => ?_
                replace hfs55 : fs55.length = 2 := hfs55.trans rfl
                simp only [List.drop_succ_cons, List.drop_zero]
                refine DP.runF1q (by simp (disch := first|omega|(simp only[ln];omega)) [runDf.eq_def, runF1, runF2, stepF.eq_def, updo.eq_def, hupo.eq_def, opSto1.eq_def, idx_WdD (P := Try.prog) elT97 szT31, if_pos, idf_Wd', h11, h12, h14, h26, hU, x6.e, hu2, lV, ld_ip agT31]; rfl) fun fq56 hfq56 => ?_
                replace hfq56 : fq56.q = [] := by rw [hfq56]; simp [qids, Op.operands, topId]
                simp only [updo]
                refine DP.runFk 1 (by simp (disch := first|omega|(simp only[ln];omega)) [runDf.eq_def, runF1, runF2, stepF.eq_def, updo.eq_def, hupo.eq_def, opSto1.eq_def, List.take_succ_cons, List.take_zero, idx_WdD (P := Try.prog) elT97 szT31, if_pos, idf_Wd', h11, h12, h14, h26, hU, x6.e, hu2, lV, ld_ip agT31]; rfl) fun fs57 hfs57 => ?_
                replace hfs57 : fs57.length = 1 := hfs57.trans rfl
                simp only [List.drop_succ_cons, List.drop_zero]
                refine DQ.runG (m := 20) [18] (by simp only [List.length_append, List.length_cons, List.length_nil, hfs54, hfs55, hfs57]; omega) (by intro k f hk hex; simp only [List.mem_cons, List.not_mem_nil, or_false] at hex; rcases hex with rfl <;> (simp [List.getElem?_append, hfs54, hfs55, hfs57] at hk; subst hk; assumption)) _ _ _ (fun id q h j hj => by have := hold id q h; simp at hj; omega) (by kernel_rfl) rfl (by simp (disch := first|omega|(simp only[ln];omega)) [runDf.eq_def, runF1, runF2, stepF.eq_def, updo.eq_def, hupo.eq_def, opSto1.eq_def, idx_WdD (P := Try.prog) elT97 szT31, if_pos, idf_Wd', h11, h12, h14, h26, hU, x6.e, hu2, lV, ld_ip agT31]; rfl) ?_
                refine hK52 _ ?_
                refine AWP.region (AOPS.all (by simp (disch := first|omega|(simp only[ln];omega)) [idf_Wd', h237]; rfl) ?_)
                refine ⟨n - (i + 1), by omega, i + 1, u2.set (j + i) ((gt u2 (j + i) + gt Vl i + c) % 18446744073709551616), (gt u2 (j + i) + gt Vl i + c) / 18446744073709551616, rfl, by omega, ws.2.2, ws.1, ws.2.1, by simp [h6], by simp [h10], by simp [h11], by simp [h12], by simp [h13], by simp [h14], by simp [h15], by simp [h20], by simp, by simp [h236], by simp (disch := omega) [h237], by simp (disch := omega) [hU], by simp (disch := omega) [hO], rfl⟩
              · try simp only [decide_eq_true_eq, decide_eq_false_iff_not] at h238
                have hin : i = n := by omega
                rw [hin, val_take_all (by omega), vV] at w2
                have wl := win_add_last w2 (by omega) c0 c1
                have gun := w2.dig.gt (by omega) (j + n)
                have wl0 := wl.1
                have wl1 := wl.2.1
                refine AWP.exit ?_
                refine hK48 _ ?_
                refine AWP.seqk fun K58 hK58 => ?_
                refine AWP.region ?_
                refine AOPS.runk 11 (by simp (disch := first|omega|(simp only[ln];omega)) [List.take_succ_cons, List.take_zero, idx_WdD (P := Try.prog) elT97 szT31, if_pos, idf_Wd', h6, h12, h14, h26, hU, x7.e, hu2, ld_ip agT31]; rfl) ?_
                simp only [List.drop_succ_cons, List.drop_zero]
                refine AOPS.ecall (FE.add64 nb117 (gt u2 (j + n)) 0 c gun.1 (by omega) c0 c1) rfl rfl rfl (by simp (disch := first|omega|(simp only[ln];omega)) [idf_Wd', h6, h12, h14, h26, hU, x7.e, hu2, ld_ip agT31]) (by simp (disch := first|omega|(simp only[ln];omega)) [h6, h12, h14, h26, hU, x7.e, hu2, ld_ip agT31]) (by simp) ?_
                simp only [puts_some, updo]
                refine AOPS.all (by simp (disch := first|omega|(simp only[ln];omega)) [idx_WdD (P := Try.prog) elT97 szT31, if_pos, idf_Wd', h6, h12, h14, h26, hU, x7.e, hu2, ld_ip agT31]; rfl) ?_
                refine hK58 _ ?_
                refine AWP.region (AOPS.all (by simp (disch := first|omega|(simp only[ln];omega)) [idf_Wd', h20]; rfl) ?_)
                refine ⟨(q - 1).toNat, by omega, q - 1, u2.set (j + n) ((gt u2 (j + n) + c) % 18446744073709551616), 1 - (gt u2 (j + n) + c) / 18446744073709551616, rfl, wl.2.2.cast (ab_cast _ _ _ _), by rw [show q - 1 + 1 = q by omega]; exact hneg, by omega, by omega, by omega, by simp [h6], by simp [h10], by simp [h11], by simp [h12], by simp [h13], by simp [h14], by simp [h15], by simp, by simp (disch := omega) [hU], by simp (disch := omega) [hO], rfl⟩
            · try simp only [decide_eq_true_eq, decide_eq_false_iff_not] at h233
              have hb0 : br = 0 := by simp at h233; omega
              subst hb0
              rw [Int.mul_zero, Int.add_zero] at w
              refine AWP.exit ?_
              refine hK43 _ ?_
              refine AWP.region (AOPS.all (by simp (disch := first|omega|(simp only[ln];omega)) [idx_WdD (P := Try.prog) elT97 szT31, if_pos, idf_Wd', h13, h14, h15, hO, hol]; rfl) ?_)
              refine hK28 _ ?_
              refine AWP.region (AOPS.all (by simp (disch := first|omega|(simp only[ln];omega)) [idf_Wd', h14]; rfl) ?_)
              refine ⟨j, by omega, j, u1, out.set j q, rfl, by omega, hKn.step (n := n) w q0 qB qlt (by omega), w.len.trans hul, by simp [hol], by simp [h6], by simp [h10], by simp [h11], by simp [h12], by simp [h13], by simp [h14], by simp (disch := omega) [hU], by simp (disch := omega) [hO], rfl⟩
        refine AWP.seqk fun K59 hK59 => ?_
        refine AWP.drawF 12 Try.checked.mixed (by kernel_rfl) (by simp (disch := first|omega|(simp only[ln];omega)) [runDf.eq_def, runF1, runF2, stepF.eq_def, updo.eq_def, hupo.eq_def, opSto1.eq_def, idx_WdD (P := Try.prog) elT97 szT31, if_pos, idf_Wd', h6, h11, h12, h14, hU, x1.e, x4.e, lV, hul, ld_ip agT31]; rfl) ?_
        refine hK59 _ ?_
        refine cond_ok _ (by simp (disch := first|omega|(simp only[ln];omega)); rfl) (fun h109 => ?_) (fun h109 => ?_)
        · try simp only [decide_eq_true_eq, decide_eq_false_iff_not] at h109
          have hQ0 := Qh.start hPm hw tg g1.1 h109 gv1.2 g2.1 g2.2 g3.2 gv2.1
          refine AWP.seqk fun K60 hK60 => ?_
          refine AWP.region (AOPS.all (by simp (disch := first|omega|(simp only[ln];omega)) [idf_Wd']; rfl) ?_)
          refine hK60 _ ?_
          refine AWP.seqk fun K61 hK61 => ?_
          refine AWP.draw 22 Try.checked.mixed (by kernel_rfl) (by simp) ?_
          simp only [List.take_succ_cons, List.take_zero, List.drop_succ_cons, List.drop_zero]
          refine DP.runFk 18 (by simp (disch := first|omega|(simp only[ln];omega)) [runDf.eq_def, runF1, runF2, stepF.eq_def, updo.eq_def, hupo.eq_def, opSto1.eq_def, List.take_succ_cons, List.take_zero, idx_WdD (P := Try.prog) elT97 szT31, if_pos, idf_Wd', h6, h11, h12, h14, hU, x1.e, x2.e, x4.e, lV, hul, ld_ip agT31]; rfl) fun fs62 hfs62 => ?_
          replace hfs62 : fs62.length = 18 := hfs62.trans rfl
          simp only [List.drop_succ_cons, List.drop_zero]
          refine DP.fcall (div64_fc (hi := gt u (j + m + 2)) (lo := gt u (j + m + 1)) (y0 := gt Vl (m + 1)) g1.1 h109 g2.1 g2.2 gv1.2) rfl rfl rfl hb147 (by simp (disch := first|omega|(simp only[ln];omega)) [idf_Wd', h6, h11, h12, h14, hU, x1.e, x2.e, x4.e, lV, hul, ld_ip agT31]) (by simp (disch := first|omega|(simp only[ln];omega)) [h6, h11, h12, h14, hU, x1.e, x2.e, x4.e, lV, hul, ld_ip agT31]) (by simp) ?_
          simp only [updo]
          refine DP.runFk 3 (by simp (disch := first|omega|(simp only[ln];omega)) [runDf.eq_def, runF1, runF2, stepF.eq_def, updo.eq_def, hupo.eq_def, opSto1.eq_def, List.take_succ_cons, List.take_zero, idx_WdD (P := Try.prog) elT97 szT31, if_pos, idf_Wd', h6, h11, h12, h14, hU, x1.e, x2.e, x4.e, lV, hul, ld_ip agT31]; rfl) fun fs63 hfs63 => ?_
          replace hfs63 : fs63.length = 3 := hfs63.trans rfl
          simp only [List.drop_succ_cons, List.drop_zero]
          refine DQ.runF (m := 22) (by simp only [List.length_append, List.length_cons, List.length_nil, hfs62, hfs63]; omega) _ _ _ (by kernel_rfl) rfl (by simp (disch := first|omega|(simp only[ln];omega)) [runDf.eq_def, runF1, runF2, stepF.eq_def, updo.eq_def, hupo.eq_def, opSto1.eq_def, idx_WdD (P := Try.prog) elT97 szT31, if_pos, idf_Wd', h6, h11, h12, h14, hU, x1.e, x2.e, x4.e, lV, hul, ld_ip agT31]; rfl) ?_
          refine hK61 _ ?_
          refine AWP.block ?_
          refine AWP.loop (fun N s => ∃ q r : Int, N = q.toNat ∧ Qh (val 18446744073709551616 (u.drop j)) ((d : Int) * 2 ^ k) (gt u (j + m + 2)) (gt u (j + m + 1)) (gt Vl (m + 1)) q r ∧ s.env 6 = .int .i64 (n : Int) ∧ s.env 10 = .int .i64 (k : Int) ∧ s.env 11 = Wd .u64 Vl ∧ s.env 12 = .osl iu 0 (J + n + 1) ∧ s.env 13 = .osl io 0 (J + 1) ∧ s.env 14 = .int .i64 (j : Int) ∧ s.env 15 = .int .u64 q ∧ s.env 16 = .int .u64 r ∧ s.heap iu = some (1, wd .u64 u) ∧ s.heap io = some (1, wd .u64 out) ∧ s.nt = 326) (((gt u (j + m + 2) * 18446744073709551616 + gt u (j + m + 1)) / gt Vl (m + 1)).toNat) (⟨_, _, rfl, hQ0, by simp [h6], by simp [h10], by simp [h11], by simp [h12], by simp [h13], by simp [h14], by simp, by simp, by simp (disch := omega) [hU], by simp (disch := omega) [hO], rfl⟩) ?_
          clear h6 h10 h11 h12 h13 h14 hU hO
          rintro N ⟨e, H, mm, nt⟩ ⟨q, r, rfl, hQ, h6, h10, h11, h12, h13, h14, h15, h16, hU, hO, rfl⟩
          simp only [] at h6 h10 h11 h12 h13 h14 h15 h16 hU hO
          have hq0 := hQ.q0
          have hqB := hQ.qB
          have hr0 := hQ.r0
          have hrB := hQ.rB
          have m0 : 0 ≤ q * gt Vl m := Int.mul_nonneg hq0 gv2.1
          refine AWP.block ?_
          refine AWP.seqk fun K64 hK64 => ?_
          refine AWP.region ?_
          refine AOPS.runk 6 (by simp (disch := first|omega|(simp only[ln];omega)) [List.take_succ_cons, List.take_zero, idx_WdD (P := Try.prog) elT97 szT31, if_pos, idf_Wd', h6, h11, h15, x5.e, lV, ld_ip agT31]; rfl) ?_
          simp only [List.drop_succ_cons, List.drop_zero]
          refine AOPS.fcall (mul64_fc q (gt Vl m) hq0 hqB gv2.1 gv2.2) rfl rfl rfl hb116 (by simp (disch := first|omega|(simp only[ln];omega)) [idf_Wd', h6, h11, h15, x5.e, lV, ld_ip agT31]) (by simp (disch := first|omega|(simp only[ln];omega)) [h6, h11, h15, x5.e, lV, ld_ip agT31]) (by simp) ?_
          simp only [puts_some, updo]
          refine AOPS.all (by simp (disch := first|omega|(simp only[ln];omega)) [idx_WdD (P := Try.prog) elT97 szT31, if_pos, idf_Wd', h6, h11, h15, x5.e, lV, ld_ip agT31]; rfl) ?_
          refine hK64 _ ?_
          refine AWP.seqk fun K65 hK65 => ?_
          refine AWP.seqk fun K66 hK66 => ?_
          by_cases hA : q * gt Vl m / 18446744073709551616 < r
          · have c1 : decide (q * gt Vl m / 18446744073709551616 < r) = true := by simp; omega
            refine AWP.region (AOPS.all (by simp (disch := first|omega|(simp only[ln];omega)) [idx_WdD (P := Try.prog) elT97 szT31, if_pos, idf_Wd', h16, c1]; rfl) ?_)
            refine hK66 _ ?_
            refine cond_ok _ (by simp (disch := first|omega|(simp only[ln];omega)); rfl) (fun h160 => ?_) (fun h160 => ?_)
            · try simp only [decide_eq_true_eq, decide_eq_false_iff_not] at h160
              refine AWP.exit ?_
              refine J30 _ ?_
              exact ⟨q, hq0, hqB, hQ.lt, by simp [h6], by simp [h10], by simp [h11], by simp [h12], by simp [h13], by simp [h14], by simp [h15], by simp (disch := omega) [hU], by simp (disch := omega) [hO], rfl⟩
            · simp at h160
          · have c1 : decide (q * gt Vl m / 18446744073709551616 < r) = false := by simp; omega
            by_cases hB : q * gt Vl m / 18446744073709551616 = r
            · have c2 : (q * gt Vl m / 18446744073709551616 == r) = true := by simp [hB]
              refine AWP.region (AOPS.all (by simp (disch := first|omega|(simp only[ln];omega)) [idx_WdD (P := Try.prog) elT97 szT31, if_pos, idf_Wd', h6, h12, h14, h16, hU, x3.e, hul, c1, c2, ld_ip agT31]; rfl) ?_)
              refine hK66 _ ?_
              refine cond_ok _ (by simp (disch := first|omega|(simp only[ln];omega)); rfl) (fun h160 => ?_) (fun h160 => ?_)
              · try simp only [decide_eq_true_eq, decide_eq_false_iff_not] at h160
                refine AWP.exit ?_
                refine J30 _ ?_
                exact ⟨q, hq0, hqB, hQ.lt, by simp [h6], by simp [h10], by simp [h11], by simp [h12], by simp [h13], by simp [h14], by simp [h15], by simp (disch := omega) [hU], by simp (disch := omega) [hO], rfl⟩
              · try simp only [decide_eq_true_eq, decide_eq_false_iff_not] at h160
                refine AWP.skip ?_
                refine hK65 _ ?_
                refine AWP.seqk fun K67 hK67 => ?_
                obtain ⟨s1, s2, s3⟩ := hQ.step hPm hw tg g3.1 (by omega)
                refine AWP.region (AOPS.all (by simp (disch := first|omega|(simp only[ln];omega)) [idf_Wd', h15]; rfl) ?_)
                refine hK67 _ ?_
                refine AWP.seqk fun K68 hK68 => ?_
                refine AWP.region (AOPS.all (by simp (disch := first|omega|(simp only[ln];omega)) [idf_Wd']; rfl) ?_)
                refine hK68 _ ?_
                refine AWP.seqk fun K69 hK69 => ?_
                refine AWP.region ?_
                refine AOPS.runk 6 (by simp (disch := first|omega|(simp only[ln];omega)) [List.take_succ_cons, List.take_zero, idx_WdD (P := Try.prog) elT97 szT31, if_pos, idf_Wd', h6, h11, h16, x4.e, lV, ld_ip agT31]; rfl) ?_
                simp only [List.drop_succ_cons, List.drop_zero]
                refine AOPS.ecall (FE.add64 nb117 r (gt Vl (m + 1)) 0 hQ.r0 gv1.1 (by omega) (by omega)) rfl rfl rfl (by simp (disch := first|omega|(simp only[ln];omega)) [idf_Wd', h6, h11, h16, x4.e, lV, ld_ip agT31]) (by simp (disch := first|omega|(simp only[ln];omega)) [h6, h11, h16, x4.e, lV, ld_ip agT31]) (by simp) ?_
                simp only [puts_some, updo]
                refine AOPS.all (by simp (disch := first|omega|(simp only[ln];omega)) [idx_WdD (P := Try.prog) elT97 szT31, if_pos, idf_Wd', h6, h11, h16, x4.e, lV, ld_ip agT31]; rfl) ?_
                refine hK69 _ ?_
                refine AWP.seqk fun K70 hK70 => ?_
                refine AWP.region (AOPS.all (by simp (disch := first|omega|(simp only[ln];omega)) [idf_Wd']; rfl) ?_)
                refine hK70 _ ?_
                refine cond_ok _ (by simp (disch := first|omega|(simp only[ln];omega)); rfl) (fun h174 => ?_) (fun h174 => ?_)
                · try simp only [decide_eq_true_eq, decide_eq_false_iff_not] at h174
                  refine AWP.exit ?_
                  refine J30 _ ?_
                  exact ⟨q - 1, by omega, by omega, s2, by simp [h6], by simp [h10], by simp [h11], by simp [h12], by simp [h13], by simp [h14], by simp [h15], by simp (disch := omega) [hU], by simp (disch := omega) [hO], rfl⟩
                · try simp only [decide_eq_true_eq, decide_eq_false_iff_not] at h174
                  have hlt : r + gt Vl (m + 1) < 18446744073709551616 := by simp at h174; omega
                  refine AWP.skip ?_
                  refine ⟨(q - 1).toNat, by omega, q - 1, r + gt Vl (m + 1), rfl, ⟨s3, by omega, hlt, by omega, by omega, s2⟩, by simp [h6], by simp [h10], by simp [h11], by simp [h12], by simp [h13], by simp [h14], by simp, by simp [Int.emod_eq_of_lt (show 0 ≤ r + gt Vl (m + 1) by omega) hlt], by simp (disch := omega) [hU], by simp (disch := omega) [hO], rfl⟩
            · have c2 : (q * gt Vl m / 18446744073709551616 == r) = false := by simp [hB]
              refine AWP.region (AOPS.all (by simp (disch := first|omega|(simp only[ln];omega)) [idx_WdD (P := Try.prog) elT97 szT31, if_pos, idf_Wd', h16, c1, c2]; rfl) ?_)
              refine hK66 _ ?_
              refine cond_ok _ (by simp (disch := first|omega|(simp only[ln];omega)); rfl) (fun h160 => ?_) (fun h160 => ?_)
              · simp at h160
              · try simp only [decide_eq_true_eq, decide_eq_false_iff_not] at h160
                refine AWP.skip ?_
                refine hK65 _ ?_
                refine AWP.seqk fun K71 hK71 => ?_
                obtain ⟨s1, s2, s3⟩ := hQ.step hPm hw tg g3.1 (by omega)
                refine AWP.region (AOPS.all (by simp (disch := first|omega|(simp only[ln];omega)) [idf_Wd', h15]; rfl) ?_)
                refine hK71 _ ?_
                refine AWP.seqk fun K72 hK72 => ?_
                refine AWP.region (AOPS.all (by simp (disch := first|omega|(simp only[ln];omega)) [idf_Wd']; rfl) ?_)
                refine hK72 _ ?_
                refine AWP.seqk fun K73 hK73 => ?_
                refine AWP.region ?_
                refine AOPS.runk 6 (by simp (disch := first|omega|(simp only[ln];omega)) [List.take_succ_cons, List.take_zero, idx_WdD (P := Try.prog) elT97 szT31, if_pos, idf_Wd', h6, h11, h16, x4.e, lV, ld_ip agT31]; rfl) ?_
                simp only [List.drop_succ_cons, List.drop_zero]
                refine AOPS.ecall (FE.add64 nb117 r (gt Vl (m + 1)) 0 hQ.r0 gv1.1 (by omega) (by omega)) rfl rfl rfl (by simp (disch := first|omega|(simp only[ln];omega)) [idf_Wd', h6, h11, h16, x4.e, lV, ld_ip agT31]) (by simp (disch := first|omega|(simp only[ln];omega)) [h6, h11, h16, x4.e, lV, ld_ip agT31]) (by simp) ?_
                simp only [puts_some, updo]
                refine AOPS.all (by simp (disch := first|omega|(simp only[ln];omega)) [idx_WdD (P := Try.prog) elT97 szT31, if_pos, idf_Wd', h6, h11, h16, x4.e, lV, ld_ip agT31]; rfl) ?_
                refine hK73 _ ?_
                refine AWP.seqk fun K74 hK74 => ?_
                refine AWP.region (AOPS.all (by simp (disch := first|omega|(simp only[ln];omega)) [idf_Wd']; rfl) ?_)
                refine hK74 _ ?_
                refine cond_ok _ (by simp (disch := first|omega|(simp only[ln];omega)); rfl) (fun h174 => ?_) (fun h174 => ?_)
                · try simp only [decide_eq_true_eq, decide_eq_false_iff_not] at h174
                  refine AWP.exit ?_
                  refine J30 _ ?_
                  exact ⟨q - 1, by omega, by omega, s2, by simp [h6], by simp [h10], by simp [h11], by simp [h12], by simp [h13], by simp [h14], by simp [h15], by simp (disch := omega) [hU], by simp (disch := omega) [hO], rfl⟩
                · try simp only [decide_eq_true_eq, decide_eq_false_iff_not] at h174
                  have hlt : r + gt Vl (m + 1) < 18446744073709551616 := by simp at h174; omega
                  refine AWP.skip ?_
                  refine ⟨(q - 1).toNat, by omega, q - 1, r + gt Vl (m + 1), rfl, ⟨s3, by omega, hlt, by omega, by omega, s2⟩, by simp [h6], by simp [h10], by simp [h11], by simp [h12], by simp [h13], by simp [h14], by simp, by simp [Int.emod_eq_of_lt (show 0 ≤ r + gt Vl (m + 1) by omega) hlt], by simp (disch := omega) [hU], by simp (disch := omega) [hO], rfl⟩
        · try simp only [decide_eq_true_eq, decide_eq_false_iff_not] at h109
          refine AWP.skip ?_
          refine J30 _ ?_
          exact ⟨18446744073709551615, by omega, by omega, by omega, by simp [h6], by simp [h10], by simp [h11], by simp [h12], by simp [h13], by simp [h14], by simp, by simp (disch := omega) [hU], by simp (disch := omega) [hO], rfl⟩
      · try simp only [decide_eq_true_eq, decide_eq_false_iff_not] at h95
        obtain rfl : N = 0 := by omega
        obtain ⟨f1, f2⟩ := dw_fin hp0 hKn
        have hltn : val 18446744073709551616 u < (18446744073709551616 : Int) ^ n := by
          have := hKn.hi
          rw [List.drop_zero] at this
          rw [hn]; omega
        obtain ⟨M, hM⟩ : ∃ M, M = (trimW (u.take n)).length := ⟨_, rfl⟩
        have hMn : M ≤ n := by
          have := trimW_length (u.take n)
          rw [List.length_take] at this; omega
        refine AWP.exit ?_
        refine hK24 _ ?_
        refine AWP.seqk fun K75 hK75 => ?_
        refine AWP.region ?_
        refine AOPS.runk 3 (by simp (disch := first|omega|(simp only[ln];omega)) [List.take_succ_cons, List.take_zero, if_pos, idf_Wd', h6, h12, hU, hul]; rfl) ?_
        simp only [List.drop_succ_cons, List.drop_zero]
        refine AOPS.acall (trim_ac u iu n _ _ (by simp [hU]) (by omega) (by omega)) rfl rfl rfl hb113 (by simp (disch := first|omega|(simp only[ln];omega)) [idf_Wd', h6, h12, hU, hul]) (by simp (disch := first|omega|(simp only[ln];omega)) [h6, h12, hU, hul]) (by simp) ?_
        rintro _ H5 nx5 ⟨rfl, rfl, hnx5⟩
        rw [← hM]
        simp only [puts_some, updo]
        refine AOPS.all (by simp (disch := first|omega|(simp only[ln];omega)) [if_pos, idf_Wd', h6, h12, hU, hul]; rfl) ?_
        refine hK75 _ ?_
        refine AWP.seqk fun K76 hK76 => ?_
        refine AWP.seqk fun K77 hK77 => ?_
        refine AWP.region (AOPS.all (by simp (disch := first|omega|(simp only[ln];omega)) [len_Wd (P := Try.prog) #[97] rfl elT97, idf_Wd', hU]; rfl) ?_)
        refine hK77 _ ?_
        refine AWP.block ?_
        refine AWP.loop (fun N s => ∃ (i : Nat) (o : List Int), N = M - i ∧ i ≤ M ∧ o.length = J + n + 1 ∧ Dig 18446744073709551616 o ∧ (∀ x, x < i → gt o x = gt (trimW (u.take n)) x / 2 ^ k + gt (trimW (u.take n)) (x + 1) % 2 ^ k * 2 ^ (64 - k)) ∧ (∀ x, i ≤ x → x < M → gt o x = gt (trimW (u.take n)) x) ∧ s.env 10 = .int .i64 (k : Int) ∧ s.env 13 = .osl io 0 (J + 1) ∧ s.env 28 = .osl iu 0 M ∧ s.env 289 = .int .i64 (M : Int) ∧ s.env 290 = .int .i64 (i : Int) ∧ s.heap iu = some (1, wd .u64 o) ∧ s.heap io = some (1, wd .u64 out) ∧ s.nt = 326) (M) (⟨0, u, by omega, by omega, hul, hKn.dig, by intro x hx; omega, by intro x _ hx; rw [gt_trimW x (by omega), gt_take (by omega)], by simp [h10], by simp [h13], by simp, by simp, by simp, by simp (disch := omega) [hU], by simp (disch := omega) [hO], rfl⟩) ?_
        clear h6 h10 h11 h12 h13 h14 hU hO
        rintro N ⟨e, H, mm, nt⟩ ⟨i, o, rfl, hi, hol2, dO, hs1, hs2, h10, h13, h28, h289, h290, hU, hO, rfl⟩
        simp only [] at h10 h13 h28 h289 h290 hU hO
        refine AWP.seqk fun K78 hK78 => ?_
        refine AWP.region (AOPS.all (by simp (disch := first|omega|(simp only[ln];omega)) [idf_Wd', h289, h290]; rfl) ?_)
        refine hK78 _ ?_
        refine AWP.seqk fun K79 hK79 => ?_
        refine cond_ok _ (by simp (disch := first|omega|(simp only[ln];omega)); rfl) (fun h291 => ?_) (fun h291 => ?_)
        · try simp only [decide_eq_true_eq, decide_eq_false_iff_not] at h291
          have hi' : i < M := by omega
          have dT := (hKn.dig.take n).trim
          have gi := dT.gt (by omega) i
          have gi2 := dT.gt (by omega) (i + 1)
          have od := or_down (y := gt (trimW (u.take n)) (i + 1)) hk gi.1 gi.2
          have hoi := hs2 i (Nat.le_refl _) hi'
          have i1 : TN (((i : Int) + 1).toNat) (i + 1) := TN.i (by omega)
          refine AWP.skip ?_
          refine hK79 _ ?_
          refine AWP.seqk fun K80 hK80 => ?_
          refine AWP.block ?_
          refine AWP.seqk fun K81 hK81 => ?_
          refine AWP.region (AOPS.all (by simp (disch := first|omega|(simp only[ln];omega)) [idf_Wd', h290]; rfl) ?_)
          refine hK81 _ ?_
          refine AWP.seqk fun K82 hK82 => ?_
          refine AWP.region (AOPS.all (by simp (disch := first|omega|(simp only[ln];omega)) [idf_Wd']; rfl) ?_)
          refine hK82 _ ?_
          refine AWP.seqk fun K83 hK83 => ?_
          refine AWP.seqk fun K84 hK84 => ?_
          by_cases hiM : i + 1 < M
          · have c1 : decide ((i : Int) + 1 < (M : Int)) = true := by simp; omega
            have c2 : True := trivial
            refine AWP.region (AOPS.all (by simp (disch := first|omega|(simp only[ln];omega)) [len_Wd (P := Try.prog) #[97] rfl elT97, idf_Wd', h10, h28, hU, c1]; rfl) ?_)
            refine hK84 _ ?_
            refine cond_ok _ (by simp (disch := first|omega|(simp only[ln];omega)); rfl) (fun h301 => ?_) (fun h301 => ?_)
            · try simp only [decide_eq_true_eq, decide_eq_false_iff_not] at h301
              have hk0 : 0 < k := by omega
              have ho2 := hs2 (i + 1) (by omega) hiM
              have wl : IntKind.u64.wrap (gt (trimW (u.take n)) (i + 1) * 2 ^ (64 - k)) = gt (trimW (u.take n)) (i + 1) % 2 ^ k * 2 ^ (64 - k) := by rw [wrap_u64m, shl_low (by omega)]
              have w9 : TN (((64 : Int) - (k : Int)).toNat) (64 - k) := TN.i (by omega)
              have od1 := od.1
              refine AWP.region (AOPS.all (by simp (disch := first|omega|(simp only[ln];omega)) [idx_WdD (P := Try.prog) elT97 szT31, if_pos, idf_Wd', h10, h28, hU, hol2, i1.e, ho2, w9.e, hmk2.e, wl, IntKind.bits, ld_ip agT31]; rfl) ?_)
              refine hK83 _ ?_
              refine AWP.region (AOPS.all (by simp (disch := first|omega|(simp only[ln];omega)) [idx_WdD (P := Try.prog) elT97 szT31, if_pos, idf_Wd', h10, h28, hU, hol2, hoi, hmk.e, IntKind.bits, fdk, od1, ld_ip agT31]; rfl) ?_)
              refine hK80 _ ?_
              refine AWP.region (AOPS.all (by simp (disch := first|omega|(simp only[ln];omega)) [idf_Wd', h290]; rfl) ?_)
              refine ⟨M - (i + 1), by omega, i + 1, o.set i (gt (trimW (u.take n)) i / 2 ^ k + gt (trimW (u.take n)) (i + 1) % 2 ^ k * 2 ^ (64 - k)), rfl, by omega, by simp [hol2], dO.set _ od.2.1 od.2.2, ?_, ?_, by simp [h10], by simp [h13], by simp [h28], by simp [h289], by simp (disch := omega) [h290], by simp, by simp (disch := omega) [hO], rfl⟩
              · intro x hx
                by_cases hxi : x = i
                · subst hxi; rw [gt_set (by omega)]
                · rw [gt_set_ne (by omega)]; exact hs1 x (by omega)
              · intro x hx hx2
                rw [gt_set_ne (by omega)]; exact hs2 x (by omega) hx2
            · try simp only [decide_eq_true_eq, decide_eq_false_iff_not] at h301
              have hk0 : k = 0 := by omega
              have hzz : gt (trimW (u.take n)) (i + 1) % 2 ^ k * 2 ^ (64 - k) = 0 := by subst hk0; simp
              have od1 := od.1
              rw [hzz, Int.add_zero] at od1
              refine AWP.skip ?_
              refine hK83 _ ?_
              refine AWP.region (AOPS.all (by simp (disch := first|omega|(simp only[ln];omega)) [idx_WdD (P := Try.prog) elT97 szT31, if_pos, idf_Wd', h10, h28, hU, hol2, hoi, hmk.e, IntKind.bits, fdk, od1, ld_ip agT31]; rfl) ?_)
              refine hK80 _ ?_
              refine AWP.region (AOPS.all (by simp (disch := first|omega|(simp only[ln];omega)) [idf_Wd', h290]; rfl) ?_)
              refine ⟨M - (i + 1), by omega, i + 1, o.set i (gt (trimW (u.take n)) i / 2 ^ k + gt (trimW (u.take n)) (i + 1) % 2 ^ k * 2 ^ (64 - k)), rfl, by omega, by simp [hol2], dO.set _ od.2.1 od.2.2, ?_, ?_, by simp [h10], by simp [h13], by simp [h28], by simp [h289], by simp (disch := omega) [h290], by simp [hzz], by simp (disch := omega) [hO], rfl⟩
              · intro x hx
                by_cases hxi : x = i
                · subst hxi; rw [gt_set (by omega)]
                · rw [gt_set_ne (by omega)]; exact hs1 x (by omega)
              · intro x hx hx2
                rw [gt_set_ne (by omega)]; exact hs2 x (by omega) hx2
          · have c1 : decide ((i : Int) + 1 < (M : Int)) = false := by simp; omega
            have c2 : True := trivial
            refine AWP.region (AOPS.all (by simp (disch := first|omega|(simp only[ln];omega)) [len_Wd (P := Try.prog) #[97] rfl elT97, idf_Wd', h28, hU, c1]; rfl) ?_)
            refine hK84 _ ?_
            refine cond_ok _ (by simp (disch := first|omega|(simp only[ln];omega)); rfl) (fun h301 => ?_) (fun h301 => ?_)
            · simp at h301
            · try simp only [decide_eq_true_eq, decide_eq_false_iff_not] at h301
              have hzz : gt (trimW (u.take n)) (i + 1) % 2 ^ k * 2 ^ (64 - k) = 0 := by rw [gt_ge (by omega), Int.zero_emod, Int.zero_mul]
              have od1 := od.1
              rw [hzz, Int.add_zero] at od1
              refine AWP.skip ?_
              refine hK83 _ ?_
              refine AWP.region (AOPS.all (by simp (disch := first|omega|(simp only[ln];omega)) [idx_WdD (P := Try.prog) elT97 szT31, if_pos, idf_Wd', h10, h28, hU, hol2, hoi, hmk.e, IntKind.bits, fdk, od1, ld_ip agT31]; rfl) ?_)
              refine hK80 _ ?_
              refine AWP.region (AOPS.all (by simp (disch := first|omega|(simp only[ln];omega)) [idf_Wd', h290]; rfl) ?_)
              refine ⟨M - (i + 1), by omega, i + 1, o.set i (gt (trimW (u.take n)) i / 2 ^ k + gt (trimW (u.take n)) (i + 1) % 2 ^ k * 2 ^ (64 - k)), rfl, by omega, by simp [hol2], dO.set _ od.2.1 od.2.2, ?_, ?_, by simp [h10], by simp [h13], by simp [h28], by simp [h289], by simp (disch := omega) [h290], by simp [hzz], by simp (disch := omega) [hO], rfl⟩
              · intro x hx
                by_cases hxi : x = i
                · subst hxi; rw [gt_set (by omega)]
                · rw [gt_set_ne (by omega)]; exact hs1 x (by omega)
              · intro x hx hx2
                rw [gt_set_ne (by omega)]; exact hs2 x (by omega) hx2
        · try simp only [decide_eq_true_eq, decide_eq_false_iff_not] at h291
          have hin : i = M := by omega
          rw [hin] at hs1
          have hrd := rest_down (a := a) (d := d) (k := k) (n := n) hk hKn.dig (by omega) f2 hltn dO (by omega) (by rw [← hM]; exact hs1)
          rw [← hM] at hrd
          have t1 : trimW out = mag ((a / d : Nat) : Int) := by rw [mag_of hKn.dout, f1]
          refine AWP.exit ?_
          refine hK76 _ ?_
          refine AWP.seqk fun K85 hK85 => ?_
          refine AWP.region ?_
          refine AOPS.runk 1 (by simp (disch := first|omega|(simp only[ln];omega)) [List.take_succ_cons, List.take_zero, idf_Wd', h13, h28]; rfl) ?_
          simp only [List.drop_succ_cons, List.drop_zero]
          refine AOPS.frz1 322 io 1 (wd .u64 out) (Wd .u64 out) (by simp (disch := omega) [hO]) (by simp [h13, ← hol]; first | exact fz_wd rfl | exact isl_take_wd (Nat.le_refl _)) ?_
          refine AOPS.fcall (trim_fc out (by omega)) rfl rfl rfl hb113 (by simp (disch := first|omega|(simp only[ln];omega)) [idf_Wd', h13, h28]) (by simp (disch := first|omega|(simp only[ln];omega)) [h13, h28]) (by simp) ?_
          simp only [puts_some, updo]
          refine AOPS.runk 1 (by simp (disch := first|omega|(simp only[ln];omega)) [List.take_succ_cons, List.take_zero, idf_Wd', h13, h28]; rfl) ?_
          simp only [List.drop_succ_cons, List.drop_zero]
          refine AOPS.frz1 324 iu 1 (wd .u64 o) (Wd .u64 (o.take M)) (by simp (disch := omega) [hU]) (by simp [h28]; exact fz_wdt (by omega)) ?_
          refine AOPS.fcall (trim_fc (o.take M) (by simp; omega)) rfl rfl rfl hb113 (by simp (disch := first|omega|(simp only[ln];omega)) [idf_Wd', h13, h28]) (by simp (disch := first|omega|(simp only[ln];omega)) [h13, h28]) (by simp) ?_
          simp only [puts_some, updo]
          refine AOPS.all (by simp (disch := first|omega|(simp only[ln];omega)) [idf_Wd', h13, h28]; rfl) ?_
          refine hK85 _ ?_
          refine AWP.ret ?_
          exact hK _ _ _ _ trivial ((Fin.mk (r := .tup [Wd .u64 (trimW out), Wd .u64 (trimW (o.take M))]) (by simp [aRes, aResL, aRes1, idf_Wd'])).cast (by rw [t1, hrd.2]))

end Go.Proofs.Ytdcggmbnjonemaa

/- Walks: the greatest common divisor. -/
namespace Go.Proofs.Ytdcggmbnjonemaa
open Go Go.RowKit
set_option linter.unusedSimpArgs false
set_option linter.unusedVariables false
set_option maxRecDepth 100000
attribute [local simp] List.getElem?_cons_zero List.getElem?_cons_succ List.getElem?_toArray runOps stepOp.eq_def agd.eq_def dstOk.eq_def opVal.eq_def opNew.eq_def opSto.eq_def ev.eq_def cv.eq_def puts_some puts_none upd_ap lst.eq_def aBin.eq_def aUn.eq_def aBi_str aBi_isl aBi_osl aBi_nsl aBi_max aBi_min aBi_max3 aConv.eq_def aLd.eq_def aLoad.eq_def aField.eq_def aFld.eq_def aIdx_isl aIdx_osl aSlc_isl aSlc_osl aSlc_str aSlc_nsl bnd.eq_def evs_nil evs_cons aBuild.eq_def aFill splice.eq_def cells_agg cells_int cells_bool cells_str cells_nil cells_nsl cells_isl cells_osl cells_ptr cells_ip cells_fn cells_Wd one_int one_bool one_str one_nil one_nsl one_isl one_osl one_ptr one_ip one_fn one_Wd aSets hupd_eq hupd_ne wrap_i64s wrap_u64s wrap_u32s wrap_u8s wd_getD wd_set wd_len wd_replicate wd_one wd_fold fz_osl hupd_same aSix.eq_def aEqS.eq_def aEqB_bool aEqB_nsl aEqB_nil
attribute [local simp] szT3 byT3 agT3 unT3 zoT3 szT4 byT4 agT4 unT4 zoT4 szT31 byT31 agT31 unT31 zoT31 szT97 byT97 agT97 elT97 unT97 zoT97 szT99 byT99 agT99 flT99 fdT99_0 fdT99_1 zoT99 szT162 byT162 agT162 elT162 unT162 zoT162

set_option maxHeartbeats 2000000 in
theorem gcd_fc {j : Nat} (zs : List Int) (hz : ∀ z ∈ zs, Bg j z) (hj : j ≤ 68719476736) (hl : zs.length ≤ 1099511627776) : FC Try.prog 64 [.isl (zs.map numC)] (numI ((gcdL zs : Nat) : Int)) := by
  refine FC.body Try.func64 rfl (by simp [idfL, idf, idfLL_iff, numC, idf_Wd']) (by simp [idfL, idf, idfLL_iff, idf_Wd', idf_numI, cells_numI, numI_fold]) 37 rfl fun nx K hK => ?_
  refine AWP.seqk fun K1 hK1 => ?_
  refine AWP.region (AOPS.all (by simp (disch := first|omega|(simp only[ln];omega)) [idf_Wd', idf_numI, cells_numI, numI_fold]; rfl) ?_)
  refine hK1 _ ?_
  refine AWP.seqk fun K2 hK2 => ?_
  refine AWP.region (AOPS.all (by simp (disch := first|omega|(simp only[ln];omega)) [idf_Wd', idf_numI, cells_numI, numI_fold]; rfl) ?_)
  refine hK2 _ ?_
  refine AWP.seqk fun K3 hK3 => ?_
  refine AWP.seqk fun K4 hK4 => ?_
  refine AWP.region (AOPS.all (by simp (disch := first|omega|(simp only[ln];omega)) [idf_Wd', idf_numI, cells_numI, numI_fold]; rfl) ?_)
  refine hK4 _ ?_
  refine AWP.block ?_
  refine AWP.loop (fun N s => ∃ (i : Nat) (X : AV), N = zs.length - i ∧ i ≤ zs.length ∧ (X = .nsl ∧ i = 0 ∨ X = Wd .u64 (mag ((gcdL (zs.take i) : Nat) : Int))) ∧ s.env 2 = .ptr nx 0 0 ∧ s.env 3 = .ptr (nx + 1) 0 0 ∧ s.env 11 = .isl (zs.map numC) ∧ s.env 12 = .int .i64 (zs.length : Int) ∧ s.env 13 = .int .i64 (i : Int) ∧ s.heap nx = some (2, [[.bool false, .nsl]]) ∧ s.heap (nx + 1) = some (2, [[.bool false, X]]) ∧ nx + 1 < s.nx ∧ s.nt = 37) (zs.length) (⟨0, .nsl, by omega, by omega, .inl ⟨rfl, rfl⟩, by simp, by simp, by simp, by simp, by simp, by simp, by simp, by simp, rfl⟩) ?_
  rintro N ⟨e, H, mm, nt⟩ ⟨i, X, rfl, hi, hX, h2, h3, h11, h12, h13, hA, hB, hm, rfl⟩
  simp only [] at h2 h3 h11 h12 h13 hA hB hm
  refine AWP.seqk fun K5 hK5 => ?_
  refine AWP.region (AOPS.all (by simp (disch := first|omega|(simp only[ln];omega)) [idf_Wd', idf_numI, cells_numI, numI_fold, h12, h13]; rfl) ?_)
  refine hK5 _ ?_
  refine AWP.seqk fun K6 hK6 => ?_
  refine cond_ok _ (by simp (disch := first|omega|(simp only[ln];omega)); rfl) (fun h14 => ?_) (fun h14 => ?_)
  · try simp only [decide_eq_true_eq, decide_eq_false_iff_not] at h14
    have hi' : i < zs.length := by omega
    have hzi : zs[i]? = some (gt zs i) := gt_some hi'
    have hmem : gt zs i ∈ zs := List.mem_of_getElem? hzi
    have bz := hz _ hmem
    have bg := gcdL_bg zs hz i
    have hmi : (zs.map numC)[i]? = some (numC (gt zs i)) := by rw [List.getElem?_map, hzi]; rfl
    refine AWP.skip ?_
    refine hK6 _ ?_
    refine AWP.seqk fun K7 hK7 => ?_
    refine AWP.block ?_
    refine AWP.seqk fun K8 hK8 => ?_
    refine AWP.region (AOPS.all (by simp (disch := first|omega|(simp only[ln];omega)) [if_pos, idf_Wd', idf_numI, cells_numI, numI_fold, h11, h13, hmi, numC, hm]; rfl) ?_)
    refine hK8 _ ?_
    refine AWP.seqk fun K9 hK9 => ?_
    have hne : nx + 1 ≠ mm := by omega
    have hne2 : mm ≠ nx + 1 := by omega
    refine AWP.drawF 4 Try.checked.mixed (by kernel_rfl) (by simp (disch := first|omega|(simp only[ln];omega)) [runDf.eq_def, runF1, runF2, stepF.eq_def, updo.eq_def, hupo.eq_def, opSto1.eq_def, idf_Wd', idf_numI, cells_numI, numI_fold, h3, hB, Nat.ne_of_lt hm, numC]; rfl) ?_
    refine hK9 _ ?_
    refine AWP.seqk fun K10 hK10 => ?_
    refine AWP.block ?_
    refine AWP.weakE 6 (Wd .u64 (mag ((gcdL (zs.take i) : Nat) : Int))) (by
      rcases hX with ⟨rfl, h0⟩ | rfl
      · simp only [upd_ap]; intro w β b v hv
        have hv' : VR w β b .nsl v := by simpa using hv
        have : mag ((gcdL (zs.take i) : Nat) : Int) = [] := by rw [h0]; exact mag_zero
        rw [this]; exact nsl_Wd .u64 hv'
      · intro w β b v hv; simpa [upd_ap] using hv) ?_
    refine AWP.loop (fun N s => ∃ x y : Nat, N = y ∧ Nat.gcd x y = Nat.gcd (gcdL (zs.take i)) (gt zs i).natAbs ∧ Bg j x ∧ Bg j y ∧ s.env 2 = .ptr nx 0 0 ∧ s.env 3 = .ptr (nx + 1) 0 0 ∧ s.env 11 = .isl (zs.map numC) ∧ s.env 12 = .int .i64 (zs.length : Int) ∧ s.env 13 = .int .i64 (i : Int) ∧ s.env 6 = Wd .u64 (mag (x : Int)) ∧ s.env 7 = Wd .u64 (mag (y : Int)) ∧ s.heap nx = some (2, [[.bool false, .nsl]]) ∧ s.heap (nx + 1) = some (2, [[.bool false, X]]) ∧ nx + 1 < s.nx ∧ s.nt = 37) ((gt zs i).natAbs) (⟨gcdL (zs.take i), (gt zs i).natAbs, rfl, rfl, bg, bz.abs, by simp [h2], by simp [h3], by simp [h11], by simp [h12], by simp [h13], by simp, by simp [mag_abs], by simp (disch := omega) [hA], by simp (disch := omega) [hB], by simp; omega, rfl⟩) ?_
    clear h2 h3 h11 h12 h13 hA hB
    rintro N ⟨e, H, mm2, nt⟩ ⟨x, y, rfl, hg, bx, bY, h2, h3, h11, h12, h13, h6, h7, hA, hB, hm2, rfl⟩
    simp only [] at h2 h3 h11 h12 h13 h6 h7 hA hB hm2
    refine AWP.seqk fun K11 hK11 => ?_
    refine AWP.seqk fun K12 hK12 => ?_
    refine AWP.region (AOPS.all (by simp (disch := first|omega|(simp only[ln];omega)) [len_Wd (P := Try.prog) #[97] rfl elT97, idf_Wd', idf_numI, cells_numI, numI_fold, h7]; rfl) ?_)
    refine hK12 _ ?_
    refine cond_ok _ (by simp (disch := first|omega|(simp only[ln];omega)); rfl) (fun h23 => ?_) (fun h23 => ?_)
    · try simp only [decide_eq_true_eq, decide_eq_false_iff_not] at h23
      have hy : N ≠ 0 := fun h => by
        subst h
        simp [mag_zero] at h23
      refine AWP.skip ?_
      refine hK11 _ ?_
      refine AWP.block ?_
      refine AWP.seqk fun K13 hK13 => ?_
      refine AWP.region ?_
      refine AOPS.runk 2 (by simp (disch := first|omega|(simp only[ln];omega)) [List.take_succ_cons, List.take_zero, idf_Wd', idf_numI, cells_numI, numI_fold, h6, h7]; rfl) ?_
      simp only [List.drop_succ_cons, List.drop_zero]
      refine AOPS.fcall (divWords_fc x N hy (Nat.le_trans bx.len hj) (Nat.le_trans bY.len hj)) rfl rfl rfl hb118 (by simp (disch := first|omega|(simp only[ln];omega)) [idf_Wd', h6, h7, idf_numI, cells_numI, numI_fold]) (by simp (disch := first|omega|(simp only[ln];omega)) [h6, h7]) (by simp) ?_
      simp only [puts_some, updo]
      refine AOPS.all (by simp (disch := first|omega|(simp only[ln];omega)) [idf_Wd', idf_numI, cells_numI, numI_fold, h6, h7]; rfl) ?_
      refine hK13 _ ?_
      refine AWP.region ?_
      refine AOPS.runk 2 (by simp (disch := first|omega|(simp only[ln];omega)) [List.take_succ_cons, List.take_zero, idf_Wd', idf_numI, cells_numI, numI_fold, h7]; rfl) ?_
      simp only [List.drop_succ_cons, List.drop_zero]
      refine AOPS.fcall (clone_fc (mag ((x % N : Nat) : Int)) (by have := (bY.mod x hy).len; omega)) rfl rfl rfl hb115 (by simp (disch := first|omega|(simp only[ln];omega)) [idf_Wd', h7, idf_numI, cells_numI, numI_fold]) (by simp (disch := first|omega|(simp only[ln];omega)) [h7]) (by simp) ?_
      simp only [puts_some, updo]
      refine AOPS.all (by simp (disch := first|omega|(simp only[ln];omega)) [idf_Wd', idf_numI, cells_numI, numI_fold, h7]; rfl) ?_
      refine ⟨x % N, Nat.mod_lt _ (by omega), N, x % N, rfl, by rw [← hg, Nat.gcd_comm N, ← Nat.gcd_rec, Nat.gcd_comm], bY, bY.mod x (by omega), by simp [h2], by simp [h3], by simp [h11], by simp [h12], by simp [h13], by simp [h7], by simp, by simp [hA], by simp [hB], by simpa using hm2, rfl⟩
    · try simp only [decide_eq_true_eq, decide_eq_false_iff_not] at h23
      have hy : N = 0 := by
        have : (mag (N : Int)).length = 0 := by omega
        rw [mag_len0] at this; omega
      subst hy
      rw [Nat.gcd_zero_right] at hg
      rw [hg] at h6
      refine AWP.exit ?_
      refine hK10 _ ?_
      refine AWP.region (AOPS.all (by simp (disch := first|omega|(simp only[ln];omega)) [idf_Wd', idf_numI, cells_numI, numI_fold, h3, h6, hB]; rfl) ?_)
      refine hK7 _ ?_
      refine AWP.region (AOPS.all (by simp (disch := first|omega|(simp only[ln];omega)) [idf_Wd', idf_numI, cells_numI, numI_fold, h13]; rfl) ?_)
      have hgz := gcdL_succ zs hi'
      refine ⟨zs.length - (i + 1), by omega, i + 1, Wd .u64 (mag ((gcdL (zs.take (i + 1)) : Nat) : Int)), rfl, by omega, .inr rfl, by simp [h2], by simp [h3], by simp [h11], by simp [h12], by simp (disch := omega) [h13], by simp (disch := omega) [hA], by simp [hgz, ← hg], by simpa using hm2, rfl⟩
  · try simp only [decide_eq_true_eq, decide_eq_false_iff_not] at h14
    have hin : i = zs.length := by omega
    refine AWP.exit ?_
    refine hK3 _ ?_
    refine AWP.seqk fun K14 hK14 => ?_
    rcases hX with ⟨rfl, h0⟩ | rfl
    · have hz0 : zs = [] := List.length_eq_zero_iff.mp (by omega)
      refine AWP.region (AOPS.all (by simp (disch := first|omega|(simp only[ln];omega)) [idf_Wd', idf_numI, cells_numI, numI_fold, h2, h3, hA, hB]; rfl) ?_)
      refine hK14 _ ?_
      refine AWP.ret ?_
      exact hK _ _ _ _ trivial ((Fin.mk (r := .agg [.bool false, .nsl]) (by simp [aRes, aResL, aRes1, h2, idf_Wd', idf_numI, cells_numI, numI_fold])).weak (by rw [hz0]; exact fun _ _ _ _ => num0_weak))
    · rw [hin, List.take_length] at hB
      refine AWP.region (AOPS.all (by simp (disch := first|omega|(simp only[ln];omega)) [idf_Wd', idf_numI, cells_numI, numI_fold, h2, h3, hA, hB]; rfl) ?_)
      refine hK14 _ ?_
      refine AWP.ret ?_
      exact hK _ _ _ _ trivial ((Fin.mk (r := .agg [.bool false, Wd .u64 (mag ((gcdL zs : Nat) : Int))]) (by simp [aRes, aResL, aRes1, h2, idf_Wd', idf_numI, cells_numI, numI_fold])).cast (by unfold numI; simp))

end Go.Proofs.Ytdcggmbnjonemaa

/- Walks: points made by the reference. -/
namespace Go.Proofs.Ytdcggmbnjonemaa
open Go Go.RowKit
set_option linter.unusedSimpArgs false
set_option linter.unusedVariables false
set_option maxRecDepth 100000
attribute [local simp] List.getElem?_cons_zero List.getElem?_cons_succ List.getElem?_toArray runOps stepOp.eq_def agd.eq_def dstOk.eq_def opVal.eq_def opNew.eq_def opSto.eq_def ev.eq_def cv.eq_def puts_some puts_none upd_ap lst.eq_def aBin.eq_def aUn.eq_def aBi_str aBi_isl aBi_osl aBi_nsl aBi_max aBi_min aBi_max3 aConv.eq_def aLd.eq_def aLoad.eq_def aField.eq_def aFld.eq_def aIdx_isl aIdx_osl aSlc_isl aSlc_osl aSlc_str aSlc_nsl bnd.eq_def evs_nil evs_cons aBuild.eq_def aFill splice.eq_def cells_agg cells_int cells_bool cells_str cells_nil cells_nsl cells_isl cells_osl cells_ptr cells_ip cells_fn cells_Wd one_int one_bool one_str one_nil one_nsl one_isl one_osl one_ptr one_ip one_fn one_Wd aSets hupd_eq hupd_ne wrap_i64s wrap_u64s wrap_u32s wrap_u8s wd_getD wd_set wd_len wd_replicate wd_one wd_fold fz_osl hupd_same aSix.eq_def aEqS.eq_def aEqB_bool aEqB_nsl aEqB_nil
attribute [local simp] szT2 byT2 agT2 unT2 zoT2 szT4 byT4 agT4 unT4 zoT4 szT31 byT31 agT31 unT31 zoT31 szT33 byT33 agT33 flT33 fdT33_0 fdT33_1 fdT33_2 fdT33_3 zoT33 szT35 byT35 agT35 flT35 fdT35_0 fdT35_1 fdT35_2 zoT35 szT60 byT60 agT60 flT60 fdT60_0 fdT60_1 zoT60 szT90 byT90 agT90 elT90 unT90 zoT90 szT92 byT92 agT92 flT92 fdT92_0 fdT92_1 zoT92 szT94 byT94 agT94 flT94 fdT94_0 fdT94_1 fdT94_2 zoT94 szT180 byT180 agT180 unT180 zoT180

set_option maxHeartbeats 2000000 in
theorem l1Div_fc {j : Nat} (a b : Int) (hb0 : b ≠ 0) (ha : Bg j a) (hb : Bg j b) (hj : j ≤ 16777216) : FC Try.prog 142 [numS a, numS b] (.tup [numS (a / b), numS (a % b)]) := by
  have hD := l1DivAbs_fc a.natAbs b.natAbs (by omega) ha.abs hb.abs hj
  rw [dg_abs, dg_abs] at hD
  have eu := eu_lem a b hb0
  generalize hq : ((a.natAbs / b.natAbs : Nat) : Int) = q0 at *
  generalize hr : ((a.natAbs % b.natAbs : Nat) : Int) = r0 at *
  have q0n : 0 ≤ q0 := by rw [← hq]; exact Int.natCast_nonneg _
  have r0n : 0 ≤ r0 := by rw [← hr]; exact Int.natCast_nonneg _
  have bq : Bg j q0 := by
    rw [← hq]; unfold Bg at *; rw [Int.natAbs_natCast]; have := Nat.div_le_self a.natAbs b.natAbs; omega
  have br : Bg j r0 := by
    rw [← hr]; unfold Bg at *; rw [Int.natAbs_natCast]; have := Nat.mod_le a.natAbs b.natAbs; omega
  have bqs : ∀ s, Bg j (sg s q0) := fun s => by cases s <;> simp only [sg_true, sg_false]; exact bq; exact bq.neg
  have brs : ∀ s, Bg j (sg s r0) := fun s => by cases s <;> simp only [sg_true, sg_false]; exact br; exact br.neg
  have lq := bq.len32
  have lr := br.len32
  have hT1 := l1Trim_fc (decide (a < 0) != decide (b < 0)) (dg q0) (by omega) (dg_dig _)
  rw [dg_val, Int.natAbs_of_nonneg q0n] at hT1
  have hT2 := l1Trim_fc (decide (a < 0)) (dg r0) (by omega) (dg_dig _)
  rw [dg_val, Int.natAbs_of_nonneg r0n] at hT2
  obtain ⟨S, hS⟩ : ∃ S, (decide (a < 0) != decide (b < 0)) = S := ⟨_, rfl⟩
  have hS2 : (decide (a < 0) == decide (b < 0)) = !S := by rw [← hS]; cases decide (a < 0) <;> cases decide (b < 0) <;> rfl
  rw [hS] at eu hT1
  refine FC.body Try.func142 rfl (by simp [idfL, idf, idfLL_iff, idf_Wd', idf_numS, cells_numS, numS_fold]) (by simp [idfL, idf, idfLL_iff, idf_Wd', idf_numS, cells_numS, numS_fold]) 47 rfl fun nx K hK => ?_
  refine AWP.seqk fun K1 hK1 => ?_
  refine AWP.region (AOPS.all (by simp (disch := first|omega|(simp only[ln];omega)) [idf_Wd', idf_numS, cells_numS, numS_fold]; rfl) ?_)
  refine hK1 _ ?_
  refine AWP.seqk fun K2 hK2 => ?_
  refine AWP.region ?_
  refine AOPS.runk 4 (by simp (disch := first|omega|(simp only[ln];omega)) [List.take_succ_cons, List.take_zero, idf_Wd', idf_numS, cells_numS, numS_fold]; rfl) ?_
  simp only [List.drop_succ_cons, List.drop_zero]
  refine AOPS.fcall (hD) rfl rfl rfl hb137 (by simp (disch := first|omega|(simp only[ln];omega)) [idf_Wd', idf_numS, cells_numS, numS_fold]) (by simp (disch := first|omega|(simp only[ln];omega))) (by simp) ?_
  simp only [puts_some, updo]
  refine AOPS.all (by simp (disch := first|omega|(simp only[ln];omega)) [idf_Wd', idf_numS, cells_numS, numS_fold]; rfl) ?_
  refine hK2 _ ?_
  refine AWP.seqk fun K3 hK3 => ?_
  refine AWP.region ?_
  refine AOPS.runk 6 (by simp (disch := first|omega|(simp only[ln];omega)) [List.take_succ_cons, List.take_zero, idf_Wd', idf_numS, cells_numS, numS_fold, hS2]; rfl) ?_
  simp only [List.drop_succ_cons, List.drop_zero]
  refine AOPS.fcall (hT1) rfl rfl rfl hb138 (by simp (disch := first|omega|(simp only[ln];omega)) [idf_Wd', hS2, idf_numS, cells_numS, numS_fold]) (by simp (disch := first|omega|(simp only[ln];omega)) [hS2]) (by simp) ?_
  simp only [puts_some, updo]
  refine AOPS.all (by simp (disch := first|omega|(simp only[ln];omega)) [idf_Wd', idf_numS, cells_numS, numS_fold, hS2]; rfl) ?_
  refine hK3 _ ?_
  refine AWP.seqk fun K4 hK4 => ?_
  refine AWP.region ?_
  refine AOPS.runk 3 (by simp (disch := first|omega|(simp only[ln];omega)) [List.take_succ_cons, List.take_zero, idf_Wd', idf_numS, cells_numS, numS_fold]; rfl) ?_
  simp only [List.drop_succ_cons, List.drop_zero]
  refine AOPS.fcall (hT2) rfl rfl rfl hb138 (by simp (disch := first|omega|(simp only[ln];omega)) [idf_Wd', idf_numS, cells_numS, numS_fold]) (by simp (disch := first|omega|(simp only[ln];omega))) (by simp) ?_
  simp only [puts_some, updo]
  refine AOPS.all (by simp (disch := first|omega|(simp only[ln];omega)) [idf_Wd', idf_numS, cells_numS, numS_fold]; rfl) ?_
  refine hK4 _ ?_
  refine AWP.seqk fun K5 hK5 => ?_
  refine AWP.seqk fun K6 hK6 => ?_
  refine AWP.region (AOPS.all (by simp (disch := first|omega|(simp only[ln];omega)) [idf_Wd', idf_numS, cells_numS, numS_fold]; rfl) ?_)
  refine hK6 _ ?_
  refine cond_ok (decide (sg (decide (a < 0)) r0 < 0)) (by simp (disch := first|omega|(simp only[ln];omega))) (fun h30 => ?_) (fun h30 => ?_)
  · try simp only [decide_eq_true_eq, decide_eq_false_iff_not] at h30
    refine AWP.seqk fun K7 hK7 => ?_
    refine AWP.region (AOPS.all (by simp (disch := first|omega|(simp only[ln];omega)) [idf_Wd', idf_numS, cells_numS, numS_fold]; rfl) ?_)
    refine hK7 _ ?_
    refine cond_ok (decide (b < 0)) (by simp (disch := first|omega|(simp only[ln];omega))) (fun h32 => ?_) (fun h32 => ?_)
    · try simp only [decide_eq_true_eq, decide_eq_false_iff_not] at h32
      have e := eu.2.1 h30 h32
      refine AWP.seqk fun K8 hK8 => ?_
      refine AWP.draw 3 Try.checked.mixed (by kernel_rfl) (by simp) ?_
      simp only [List.take_succ_cons, List.take_zero, List.drop_succ_cons, List.drop_zero]
      refine DP.runFk 1 (by simp (disch := first|omega|(simp only[ln];omega)) [runDf.eq_def, runF1, runF2, stepF.eq_def, updo.eq_def, hupo.eq_def, opSto1.eq_def, List.take_succ_cons, List.take_zero, idf_Wd', idf_numS, cells_numS, numS_fold]; rfl) fun fs9 hfs9 => ?_
      replace hfs9 : fs9.length = 1 := hfs9.trans rfl
      simp only [List.drop_succ_cons, List.drop_zero]
      refine DP.fcall (l1Int_fc 1 (by omega) (by omega)) rfl rfl rfl hb89 (by simp (disch := first|omega|(simp only[ln];omega)) [idf_Wd', idf_numS, cells_numS, numS_fold]) (by simp (disch := first|omega|(simp only[ln];omega))) (by simp) ?_
      simp only [updo]
      refine DP.fcall (l1Add_fc (bqs S) (Bg.i64 (n := 1) (by omega) (by omega)) (by omega) (by omega)) rfl rfl rfl hb101 (by simp (disch := first|omega|(simp only[ln];omega)) [idf_Wd', idf_numS, cells_numS, numS_fold]) (by simp (disch := first|omega|(simp only[ln];omega))) (by simp) ?_
      simp only [updo]
      refine DQ.runF (m := 3) (by simp only [List.length_append, List.length_cons, List.length_nil, hfs9]; omega) _ _ _ (by kernel_rfl) rfl (by simp (disch := first|omega|(simp only[ln];omega)) [runDf.eq_def, runF1, runF2, stepF.eq_def, updo.eq_def, hupo.eq_def, opSto1.eq_def, idf_Wd', idf_numS, cells_numS, numS_fold]; rfl) ?_
      refine hK8 _ ?_
      refine AWP.region ?_
      refine AOPS.runk 2 (by simp (disch := first|omega|(simp only[ln];omega)) [List.take_succ_cons, List.take_zero, idf_Wd', idf_numS, cells_numS, numS_fold]; rfl) ?_
      simp only [List.drop_succ_cons, List.drop_zero]
      refine AOPS.fcall (l1Sub_fc (brs (decide (a < 0))) hb (by omega) (by omega)) rfl rfl rfl hb105 (by simp (disch := first|omega|(simp only[ln];omega)) [idf_Wd', idf_numS, cells_numS, numS_fold]) (by simp (disch := first|omega|(simp only[ln];omega))) (by simp) ?_
      simp only [puts_some, updo]
      refine AOPS.all (by simp (disch := first|omega|(simp only[ln];omega)) [idf_Wd', idf_numS, cells_numS, numS_fold]; rfl) ?_
      refine hK5 _ ?_
      refine AWP.seqk fun K10 hK10 => ?_
      refine AWP.old fun hold => ?_
      refine AWP.draw 2 Try.checked.mixed (by kernel_rfl) (by simp) ?_
      simp only [List.take_succ_cons, List.take_zero, List.drop_succ_cons, List.drop_zero]
      refine DP.runFk 1 (by simp (disch := first|omega|(simp only[ln];omega)) [runDf.eq_def, runF1, runF2, stepF.eq_def, updo.eq_def, hupo.eq_def, opSto1.eq_def, List.take_succ_cons, List.take_zero, idf_Wd', idf_numS, cells_numS, numS_fold]; rfl) fun fs11 hfs11 => ?_
      replace hfs11 : fs11.length = 1 := hfs11.trans rfl
      simp only [List.drop_succ_cons, List.drop_zero]
      refine DP.runF1q (by simp (disch := first|omega|(simp only[ln];omega)) [runDf.eq_def, runF1, runF2, stepF.eq_def, updo.eq_def, hupo.eq_def, opSto1.eq_def, idf_Wd', idf_numS, cells_numS, numS_fold]; rfl) fun fq12 hfq12 => ?_
      simp [qids, Op.operands, topId] at hfq12
      simp only [updo]
      refine DQ.sto1 (m := 2) [1] _ (by simp (disch := first|omega|(simp only[ln];omega)) [runDf.eq_def, runF1, runF2, stepF.eq_def, updo.eq_def, hupo.eq_def, opSto1.eq_def, idf_Wd', idf_numS, cells_numS, numS_fold]; rfl) rfl (by simp only [List.length_append, List.length_cons, List.length_nil, hfs11]; omega) (by kernel_rfl) (by intro k f hk hex; simp only [List.mem_cons, List.not_mem_nil, or_false] at hex; rcases hex with rfl <;> (simp [List.getElem?_append, hfs11] at hk; subst hk; refine ⟨?_, by first | omega | (simp; done) | (simp; omega)⟩; simp [qids, Op.operands, Call.operands, topId, numS, numI, Wd, hfq12]; try omega)) ?_
      try simp only []
      refine DQ.sto1 (m := 2) [] _ (by simp (disch := first|omega|(simp only[ln];omega)) [runDf.eq_def, runF1, runF2, stepF.eq_def, updo.eq_def, hupo.eq_def, opSto1.eq_def, idf_Wd', idf_numS, cells_numS, numS_fold]; rfl) rfl (by simp only [List.length_append, List.length_cons, List.length_nil, hfs11]; omega) (by kernel_rfl) (by intro k f hk hex; simp only [List.not_mem_nil] at hex) ?_
      try simp only []
      refine hK10 _ ?_
      refine AWP.ret ?_
      exact hK _ _ _ _ trivial ((Fin.mk (by simp [aRes, aResL, aRes1, idf_Wd', idf_numS, cells_numS, numS_fold]; rfl)).cast (by rw [e.1, e.2]))
    · try simp only [decide_eq_true_eq, decide_eq_false_iff_not] at h32
      have e := eu.2.2 h30 h32
      refine AWP.seqk fun K13 hK13 => ?_
      refine AWP.draw 3 Try.checked.mixed (by kernel_rfl) (by simp) ?_
      simp only [List.take_succ_cons, List.take_zero, List.drop_succ_cons, List.drop_zero]
      refine DP.runFk 1 (by simp (disch := first|omega|(simp only[ln];omega)) [runDf.eq_def, runF1, runF2, stepF.eq_def, updo.eq_def, hupo.eq_def, opSto1.eq_def, List.take_succ_cons, List.take_zero, idf_Wd', idf_numS, cells_numS, numS_fold]; rfl) fun fs14 hfs14 => ?_
      replace hfs14 : fs14.length = 1 := hfs14.trans rfl
      simp only [List.drop_succ_cons, List.drop_zero]
      refine DP.fcall (l1Int_fc 1 (by omega) (by omega)) rfl rfl rfl hb89 (by simp (disch := first|omega|(simp only[ln];omega)) [idf_Wd', idf_numS, cells_numS, numS_fold]) (by simp (disch := first|omega|(simp only[ln];omega))) (by simp) ?_
      simp only [updo]
      refine DP.fcall (l1Sub_fc (bqs S) (Bg.i64 (n := 1) (by omega) (by omega)) (by omega) (by omega)) rfl rfl rfl hb105 (by simp (disch := first|omega|(simp only[ln];omega)) [idf_Wd', idf_numS, cells_numS, numS_fold]) (by simp (disch := first|omega|(simp only[ln];omega))) (by simp) ?_
      simp only [updo]
      refine DQ.runF (m := 3) (by simp only [List.length_append, List.length_cons, List.length_nil, hfs14]; omega) _ _ _ (by kernel_rfl) rfl (by simp (disch := first|omega|(simp only[ln];omega)) [runDf.eq_def, runF1, runF2, stepF.eq_def, updo.eq_def, hupo.eq_def, opSto1.eq_def, idf_Wd', idf_numS, cells_numS, numS_fold]; rfl) ?_
      refine hK13 _ ?_
      refine AWP.region ?_
      refine AOPS.runk 2 (by simp (disch := first|omega|(simp only[ln];omega)) [List.take_succ_cons, List.take_zero, idf_Wd', idf_numS, cells_numS, numS_fold]; rfl) ?_
      simp only [List.drop_succ_cons, List.drop_zero]
      refine AOPS.fcall (l1Add_fc (brs (decide (a < 0))) hb (by omega) (by omega)) rfl rfl rfl hb101 (by simp (disch := first|omega|(simp only[ln];omega)) [idf_Wd', idf_numS, cells_numS, numS_fold]) (by simp (disch := first|omega|(simp only[ln];omega))) (by simp) ?_
      simp only [puts_some, updo]
      refine AOPS.all (by simp (disch := first|omega|(simp only[ln];omega)) [idf_Wd', idf_numS, cells_numS, numS_fold]; rfl) ?_
      refine hK5 _ ?_
      refine AWP.seqk fun K15 hK15 => ?_
      refine AWP.old fun hold => ?_
      refine AWP.draw 2 Try.checked.mixed (by kernel_rfl) (by simp) ?_
      simp only [List.take_succ_cons, List.take_zero, List.drop_succ_cons, List.drop_zero]
      refine DP.runFk 1 (by simp (disch := first|omega|(simp only[ln];omega)) [runDf.eq_def, runF1, runF2, stepF.eq_def, updo.eq_def, hupo.eq_def, opSto1.eq_def, List.take_succ_cons, List.take_zero, idf_Wd', idf_numS, cells_numS, numS_fold]; rfl) fun fs16 hfs16 => ?_
      replace hfs16 : fs16.length = 1 := hfs16.trans rfl
      simp only [List.drop_succ_cons, List.drop_zero]
      refine DP.runF1q (by simp (disch := first|omega|(simp only[ln];omega)) [runDf.eq_def, runF1, runF2, stepF.eq_def, updo.eq_def, hupo.eq_def, opSto1.eq_def, idf_Wd', idf_numS, cells_numS, numS_fold]; rfl) fun fq17 hfq17 => ?_
      simp [qids, Op.operands, topId] at hfq17
      simp only [updo]
      refine DQ.sto1 (m := 2) [1] _ (by simp (disch := first|omega|(simp only[ln];omega)) [runDf.eq_def, runF1, runF2, stepF.eq_def, updo.eq_def, hupo.eq_def, opSto1.eq_def, idf_Wd', idf_numS, cells_numS, numS_fold]; rfl) rfl (by simp only [List.length_append, List.length_cons, List.length_nil, hfs16]; omega) (by kernel_rfl) (by intro k f hk hex; simp only [List.mem_cons, List.not_mem_nil, or_false] at hex; rcases hex with rfl <;> (simp [List.getElem?_append, hfs16] at hk; subst hk; refine ⟨?_, by first | omega | (simp; done) | (simp; omega)⟩; simp [qids, Op.operands, Call.operands, topId, numS, numI, Wd, hfq17]; try omega)) ?_
      try simp only []
      refine DQ.sto1 (m := 2) [] _ (by simp (disch := first|omega|(simp only[ln];omega)) [runDf.eq_def, runF1, runF2, stepF.eq_def, updo.eq_def, hupo.eq_def, opSto1.eq_def, idf_Wd', idf_numS, cells_numS, numS_fold]; rfl) rfl (by simp only [List.length_append, List.length_cons, List.length_nil, hfs16]; omega) (by kernel_rfl) (by intro k f hk hex; simp only [List.not_mem_nil] at hex) ?_
      try simp only []
      refine hK15 _ ?_
      refine AWP.ret ?_
      exact hK _ _ _ _ trivial ((Fin.mk (by simp [aRes, aResL, aRes1, idf_Wd', idf_numS, cells_numS, numS_fold]; rfl)).cast (by rw [e.1, e.2]))
  · try simp only [decide_eq_true_eq, decide_eq_false_iff_not] at h30
    have e := eu.1 h30
    refine AWP.skip ?_
    refine hK5 _ ?_
    refine AWP.seqk fun K18 hK18 => ?_
    refine AWP.old fun hold => ?_
    refine AWP.draw 2 Try.checked.mixed (by kernel_rfl) (by simp) ?_
    simp only [List.take_succ_cons, List.take_zero, List.drop_succ_cons, List.drop_zero]
    refine DP.runFk 1 (by simp (disch := first|omega|(simp only[ln];omega)) [runDf.eq_def, runF1, runF2, stepF.eq_def, updo.eq_def, hupo.eq_def, opSto1.eq_def, List.take_succ_cons, List.take_zero, idf_Wd', idf_numS, cells_numS, numS_fold]; rfl) fun fs19 hfs19 => ?_
    replace hfs19 : fs19.length = 1 := hfs19.trans rfl
    simp only [List.drop_succ_cons, List.drop_zero]
    refine DP.runF1q (by simp (disch := first|omega|(simp only[ln];omega)) [runDf.eq_def, runF1, runF2, stepF.eq_def, updo.eq_def, hupo.eq_def, opSto1.eq_def, idf_Wd', idf_numS, cells_numS, numS_fold]; rfl) fun fq20 hfq20 => ?_
    simp [qids, Op.operands, topId] at hfq20
    simp only [updo]
    refine DQ.sto1 (m := 2) [1] _ (by simp (disch := first|omega|(simp only[ln];omega)) [runDf.eq_def, runF1, runF2, stepF.eq_def, updo.eq_def, hupo.eq_def, opSto1.eq_def, idf_Wd', idf_numS, cells_numS, numS_fold]; rfl) rfl (by simp only [List.length_append, List.length_cons, List.length_nil, hfs19]; omega) (by kernel_rfl) (by intro k f hk hex; simp only [List.mem_cons, List.not_mem_nil, or_false] at hex; rcases hex with rfl <;> (simp [List.getElem?_append, hfs19] at hk; subst hk; refine ⟨?_, by first | omega | (simp; done) | (simp; omega)⟩; simp [qids, Op.operands, Call.operands, topId, numS, numI, Wd, hfq20]; try omega)) ?_
    try simp only []
    refine DQ.sto1 (m := 2) [] _ (by simp (disch := first|omega|(simp only[ln];omega)) [runDf.eq_def, runF1, runF2, stepF.eq_def, updo.eq_def, hupo.eq_def, opSto1.eq_def, idf_Wd', idf_numS, cells_numS, numS_fold]; rfl) rfl (by simp only [List.length_append, List.length_cons, List.length_nil, hfs19]; omega) (by kernel_rfl) (by intro k f hk hex; simp only [List.not_mem_nil] at hex) ?_
    try simp only []
    refine hK18 _ ?_
    refine AWP.ret ?_
    exact hK _ _ _ _ trivial ((Fin.mk (by simp [aRes, aResL, aRes1, idf_Wd', idf_numS, cells_numS, numS_fold]; rfl)).cast (by rw [e.1, e.2]))

theorem wideOfS_fc (n : Int) (h1 : -9223372036854775808 ≤ n) (h2 : n ≤ 9223372036854775807) : FC Try.prog 95 [.int .i64 n] (.agg [.int .u64 (W4z n).a, .int .u64 (W4z n).b, .int .u64 (W4z n).c, .int .u64 (W4z n).d]) := by
  have w1 := l1Wide_fc (Bg.i64 h1 h2) (by omega)
  rw [wdT_l] at w1
  unfold W4.l at w1
  refine FC.body Try.func95 rfl (by simp [idfL, idf, idfLL_iff, idf_Wd', idf_numS, cells_numS, numS_fold]) (by simp [idfL, idf, idfLL_iff, idf_Wd', idf_numS, cells_numS, numS_fold]) 12 rfl fun nx K hK => ?_
  refine AWP.seqk fun K1 hK1 => ?_
  refine AWP.region (AOPS.all (by simp (disch := first|omega|(simp only[ln];omega)) [idf_Wd', idf_numS, cells_numS, numS_fold]; rfl) ?_)
  refine hK1 _ ?_
  refine AWP.seqk fun K2 hK2 => ?_
  refine AWP.region ?_
  refine AOPS.runk 1 (by simp (disch := first|omega|(simp only[ln];omega)) [List.take_succ_cons, List.take_zero, idf_Wd', idf_numS, cells_numS, numS_fold]; rfl) ?_
  simp only [List.drop_succ_cons, List.drop_zero]
  refine AOPS.fcall (l1Int_fc n h1 h2) rfl rfl rfl hb89 (by simp (disch := first|omega|(simp only[ln];omega)) [idf_Wd', idf_numS, cells_numS, numS_fold]) (by simp (disch := first|omega|(simp only[ln];omega))) (by simp) ?_
  simp only [puts_some, updo]
  refine AOPS.fcall (w1) rfl rfl rfl hb109 (by simp (disch := first|omega|(simp only[ln];omega)) [idf_Wd', idf_numS, cells_numS, numS_fold]) (by simp (disch := first|omega|(simp only[ln];omega))) (by simp) ?_
  simp only [puts_some, updo]
  refine AOPS.all (by simp (disch := first|omega|(simp only[ln];omega)) [idf_Wd', idf_numS, cells_numS, numS_fold]; rfl) ?_
  refine hK2 _ ?_
  refine AWP.seqk fun K3 hK3 => ?_
  refine AWP.region (AOPS.all (by simp (disch := first|omega|(simp only[ln];omega)) [idf_Wd', idf_numS, cells_numS, numS_fold]; rfl) ?_)
  refine hK3 _ ?_
  refine AWP.ret ?_
  exact hK _ _ _ _ trivial (Fin.mk (by simp (disch := first|omega|(simp only[ln];omega)) [aRes, aResL, aRes1, idf_Wd', idf_numS, cells_numS, numS_fold]))

end Go.Proofs.Ytdcggmbnjonemaa

/- Walks: points made and halved by the reference. -/
namespace Go.Proofs.Ytdcggmbnjonemaa
open Go Go.RowKit
set_option linter.unusedSimpArgs false
set_option linter.unusedVariables false
set_option maxRecDepth 100000
attribute [local simp] List.getElem?_cons_zero List.getElem?_cons_succ List.getElem?_toArray runOps stepOp.eq_def agd.eq_def dstOk.eq_def opVal.eq_def opNew.eq_def opSto.eq_def ev.eq_def cv.eq_def puts_some puts_none upd_ap lst.eq_def aBin.eq_def aUn.eq_def aBi_str aBi_isl aBi_osl aBi_nsl aBi_max aBi_min aBi_max3 aConv.eq_def aLd.eq_def aLoad.eq_def aField.eq_def aFld.eq_def aIdx_isl aIdx_osl aSlc_isl aSlc_osl aSlc_str aSlc_nsl bnd.eq_def evs_nil evs_cons aBuild.eq_def aFill splice.eq_def cells_agg cells_int cells_bool cells_str cells_nil cells_nsl cells_isl cells_osl cells_ptr cells_ip cells_fn cells_Wd one_int one_bool one_str one_nil one_nsl one_isl one_osl one_ptr one_ip one_fn one_Wd aSets hupd_eq hupd_ne wrap_i64s wrap_u64s wrap_u32s wrap_u8s wd_getD wd_set wd_len wd_replicate wd_one wd_fold fz_osl hupd_same aSix.eq_def aEqS.eq_def aEqB_bool aEqB_nsl aEqB_nil
attribute [local simp] szT4 byT4 agT4 unT4 zoT4 szT31 byT31 agT31 unT31 zoT31 szT33 byT33 agT33 flT33 fdT33_0 fdT33_1 fdT33_2 fdT33_3 zoT33 szT35 byT35 agT35 flT35 fdT35_0 fdT35_1 fdT35_2 zoT35 szT90 byT90 agT90 elT90 unT90 zoT90 szT92 byT92 agT92 flT92 fdT92_0 fdT92_1 zoT92 szT94 byT94 agT94 flT94 fdT94_0 fdT94_1 fdT94_2 zoT94

theorem eqW1 (n : Nat) (a a' : Int) : eqW Try.prog (n + 1) 31 [.int .u64 a] [.int .u64 a'] = some (a == a') := by
  unfold eqW; simp only [Try.underlying31]; rfl
theorem eqW4 (a b c d a' b' c' d' : Int) : eqW Try.prog 8 33 [.int .u64 a, .int .u64 b, .int .u64 c, .int .u64 d] [.int .u64 a', .int .u64 b', .int .u64 c', .int .u64 d'] = some ((a == a') && ((b == b') && ((c == c') && ((d == d') && true)))) := by
  have hs : Try.prog.stoodInHeld 33 = false := by kernel_rfl
  have hz : szOf Try.prog 31 = some 1 := by kernel_rfl
  have ha : aggT Try.prog 31 = some false := by kernel_rfl
  unfold eqW
  simp only [Try.underlying33, hs]
  simp [eqF, hz, ha, eqW1]

end Go.Proofs.Ytdcggmbnjonemaa

/- Walks: drawn numbers. -/
namespace Go.Proofs.Ytdcggmbnjonemaa
open Go Go.RowKit
set_option linter.unusedSimpArgs false
set_option linter.unusedVariables false
set_option maxRecDepth 100000
attribute [local simp] List.getElem?_cons_zero List.getElem?_cons_succ List.getElem?_toArray runOps stepOp.eq_def agd.eq_def dstOk.eq_def opVal.eq_def opNew.eq_def opSto.eq_def ev.eq_def cv.eq_def puts_some puts_none upd_ap lst.eq_def aBin.eq_def aUn.eq_def aBi_str aBi_isl aBi_osl aBi_nsl aBi_max aBi_min aBi_max3 aConv.eq_def aLd.eq_def aLoad.eq_def aField.eq_def aFld.eq_def aIdx_isl aIdx_osl aSlc_isl aSlc_osl aSlc_str aSlc_nsl bnd.eq_def evs_nil evs_cons aBuild.eq_def aFill splice.eq_def cells_agg cells_int cells_bool cells_str cells_nil cells_nsl cells_isl cells_osl cells_ptr cells_ip cells_fn cells_Wd one_int one_bool one_str one_nil one_nsl one_isl one_osl one_ptr one_ip one_fn one_Wd aSets hupd_eq hupd_ne wrap_i64s wrap_u64s wrap_u32s wrap_u8s wd_getD wd_set wd_len wd_replicate wd_one wd_fold fz_osl hupd_same aSix.eq_def aEqS.eq_def aEqB_bool aEqB_nsl aEqB_nil
attribute [local simp] szT3 byT3 agT3 unT3 zoT3 szT5 byT5 agT5 unT5 zoT5 szT29 byT29 agT29 elT29 unT29 zoT29 szT31 byT31 agT31 unT31 zoT31 szT139 byT139 agT139 flT139 fdT139_0 fdT139_1 zoT139

set_option maxHeartbeats 1000000 in
theorem next_ac (l : List Int) (p id : Nat) (H : Heap) (nx : Nat) (dl : Dig 256 l) (hl : l.length ≤ 1048576) (hp : p ≤ l.length) (hH : H id = some (2, [[Wd .u8 l, .int .i64 (p : Int)]])) (hd : ∀ i q, H i = some q → i < nx) : ACall Try.prog 139 [.ptr id 0 0] H nx (fun r H' nx' => (∃ n : Int, r = .int .i64 n ∧ 0 ≤ n ∧ n ≤ 255) ∧ (∃ p' : Nat, p' ≤ l.length ∧ H' = hupd H id (some (2, [[Wd .u8 l, .int .i64 (p' : Int)]]))) ∧ nx ≤ nx') := by
  refine ACall.body Try.func139 rfl 32 rfl fun K hK => ?_
  refine AWP.seqk fun K1 hK1 => ?_
  refine AWP.region (AOPS.all (by simp (disch := first|omega|(simp only[ln];omega)) [idf_Wd']; rfl) ?_)
  refine hK1 _ ?_
  refine AWP.seqk fun K2 hK2 => ?_
  refine AWP.seqk fun K3 hK3 => ?_
  refine AWP.drawF 10 Try.checked.mixed (by kernel_rfl) (by simp (disch := first|omega|(simp only[ln];omega)) [runDf.eq_def, runF1, runF2, stepF.eq_def, updo.eq_def, hupo.eq_def, opSto1.eq_def, len_Wd (P := Try.prog) #[29] rfl elT29, idf_Wd', hH]; rfl) ?_
  refine hK3 _ ?_
  refine cond_ok _ (by simp (disch := first|omega|(simp only[ln];omega)); rfl) (fun h12 => ?_) (fun h12 => ?_)
  · try simp only [decide_eq_true_eq, decide_eq_false_iff_not] at h12
    refine AWP.seqk fun K4 hK4 => ?_
    refine AWP.region (AOPS.all (by simp (disch := first|omega|(simp only[ln];omega)) [idf_Wd']; rfl) ?_)
    refine hK4 _ ?_
    refine AWP.ret ?_
    exact hK _ _ _ _ _ trivial (Fin.mk (by simp (disch := first|omega|(simp only[ln];omega)) [aRes, aResL, aRes1, idf_Wd'])) (⟨⟨0, rfl, by omega, by omega⟩, ⟨p, hp, (hupd_id hH).symm⟩, by simp⟩)
  · try simp only [decide_eq_true_eq, decide_eq_false_iff_not] at h12
    have hlt : p < l.length := by omega
    have gl := dl.gt (by omega) p
    have ep : ((p : Int) + 1 - 1).toNat = p := by omega
    have ep2 : (p : Int) + 1 - 1 = p := by omega
    refine AWP.skip ?_
    refine hK2 _ ?_
    refine AWP.seqk fun K5 hK5 => ?_
    refine AWP.region (AOPS.all (by simp (disch := first|omega|(simp only[ln];omega)) [idf_Wd', hH]; rfl) ?_)
    refine hK5 _ ?_
    refine AWP.seqk fun K6 hK6 => ?_
    refine AWP.drawF 12 Try.checked.mixed (by kernel_rfl) (by simp (disch := first|omega|(simp only[ln];omega)) [runDf.eq_def, runF1, runF2, stepF.eq_def, updo.eq_def, hupo.eq_def, opSto1.eq_def, idx_WdD (P := Try.prog) elT29 szT5, if_pos, idf_Wd', hH, ep, ep2, ld_ip agT5]; rfl) ?_
    refine hK6 _ ?_
    refine AWP.ret ?_
    exact hK _ _ _ _ _ trivial (Fin.mk (by simp (disch := first|omega|(simp only[ln];omega)) [aRes, aResL, aRes1, idf_Wd'])) (⟨⟨gt l p, rfl, by omega, by omega⟩, ⟨p + 1, by omega, by simp⟩, by simp; omega⟩)

set_option maxHeartbeats 1000000 in
theorem below_ac (n : Int) (hn0 : 1 < n) (hn1 : n ≤ 65536) (l : List Int) (p id : Nat) (H : Heap) (nx : Nat) (dl : Dig 256 l) (hl : l.length ≤ 1048576) (hp : p ≤ l.length) (hH : H id = some (2, [[Wd .u8 l, .int .i64 (p : Int)]])) (hd : ∀ i q, H i = some q → i < nx) : ACall Try.prog 92 [.ptr id 0 0, .int .i64 n] H nx (fun r H' nx' => (∃ k : Int, r = .int .i64 k ∧ 0 ≤ k ∧ k < n) ∧ (∃ p' : Nat, p' ≤ l.length ∧ H' = hupd H id (some (2, [[Wd .u8 l, .int .i64 (p' : Int)]]))) ∧ nx ≤ nx') := by
  have hnz : n ≠ 0 := by omega
  have tm : ∀ a : Int, 0 ≤ a → a.tmod n = a % n := fun a h => Int.tmod_eq_emod_of_nonneg h
  have em0 : ∀ a : Int, 0 ≤ a % n := fun a => Int.emod_nonneg a hnz
  have em1 : ∀ a : Int, a % n < n := fun a => Int.emod_lt_of_pos a (by omega)
  refine ACall.body Try.func92 rfl 24 rfl fun K hK => ?_
  refine AWP.seqk fun K1 hK1 => ?_
  refine AWP.region (AOPS.all (by simp (disch := first|omega|(simp only[ln];omega)) [idf_Wd']; rfl) ?_)
  refine hK1 _ ?_
  refine AWP.seqk fun K2 hK2 => ?_
  refine AWP.seqk fun K3 hK3 => ?_
  refine AWP.region (AOPS.all (by simp (disch := first|omega|(simp only[ln];omega)) [idf_Wd']; rfl) ?_)
  refine hK3 _ ?_
  refine cond_ok _ (by simp (disch := first|omega|(simp only[ln];omega)); rfl) (fun h7 => ?_) (fun h7 => ?_)
  · simp at h7; omega
  · try simp only [decide_eq_true_eq, decide_eq_false_iff_not] at h7
    refine AWP.skip ?_
    refine hK2 _ ?_
    refine AWP.seqk fun K4 hK4 => ?_
    refine AWP.seqk fun K5 hK5 => ?_
    refine AWP.region (AOPS.all (by simp (disch := first|omega|(simp only[ln];omega)) [idf_Wd']; rfl) ?_)
    refine hK5 _ ?_
    refine cond_ok _ (by simp (disch := first|omega|(simp only[ln];omega)); rfl) (fun h9 => ?_) (fun h9 => ?_)
    · try simp only [decide_eq_true_eq, decide_eq_false_iff_not] at h9
      refine AWP.seqk fun K6 hK6 => ?_
      refine AWP.region ?_
      refine AOPS.runk 1 (by simp (disch := first|omega|(simp only[ln];omega)) [List.take_succ_cons, List.take_zero, idf_Wd', hnz]; rfl) ?_
      simp only [List.drop_succ_cons, List.drop_zero]
      refine AOPS.old fun hold1 => ?_
      refine AOPS.acall (next_ac l p id _ _ dl hl hp (by simp [hH]) hold1) rfl rfl rfl hb139 (by simp (disch := first|omega|(simp only[ln];omega)) [idf_Wd', hnz]) (by simp (disch := first|omega|(simp only[ln];omega)) [hnz]) (by simp) ?_
      rintro _ _ nx2 ⟨⟨m, rfl, m0, m1⟩, ⟨p2, hp2, rfl⟩, hnx2⟩
      try simp only [] at hnx2
      simp only [puts_some, updo]
      refine AOPS.all (by simp (disch := first|omega|(simp only[ln];omega)) [idf_Wd', hnz]; rfl) ?_
      refine hK6 _ ?_
      refine AWP.ret ?_
      exact hK _ _ _ _ _ trivial (Fin.mk (r := .int .i64 (m.tmod n)) (by simp [aRes, aResL, aRes1, idf_Wd'])) (⟨⟨_, rfl, by rw [tm m m0]; exact em0 _, by rw [tm m m0]; exact em1 _⟩, ⟨p2, hp2, by simp [hupd_same]⟩, by first | exact hnx2 | (simp at *; omega)⟩)
    · try simp only [decide_eq_true_eq, decide_eq_false_iff_not] at h9
      refine AWP.skip ?_
      refine hK4 _ ?_
      refine AWP.seqk fun K7 hK7 => ?_
      refine AWP.region ?_
      refine AOPS.runk 1 (by simp (disch := first|omega|(simp only[ln];omega)) [List.take_succ_cons, List.take_zero, idf_Wd']; rfl) ?_
      simp only [List.drop_succ_cons, List.drop_zero]
      refine AOPS.old fun hold1 => ?_
      refine AOPS.acall (next_ac l p id _ _ dl hl hp (by simp [hH]) hold1) rfl rfl rfl hb139 (by simp (disch := first|omega|(simp only[ln];omega)) [idf_Wd']) (by simp (disch := first|omega|(simp only[ln];omega))) (by simp) ?_
      rintro _ _ nx2 ⟨⟨m, rfl, m0, m1⟩, ⟨p2, hp2, rfl⟩, hnx2⟩
      try simp only [] at hnx2
      simp only [puts_some, updo]
      refine AOPS.all (by simp (disch := first|omega|(simp only[ln];omega)) [idf_Wd']; rfl) ?_
      refine hK7 _ ?_
      refine AWP.seqk fun K8 hK8 => ?_
      refine AWP.region ?_
      refine AOPS.runk 2 (by simp (disch := first|omega|(simp only[ln];omega)) [List.take_succ_cons, List.take_zero, idf_Wd']; rfl) ?_
      simp only [List.drop_succ_cons, List.drop_zero]
      refine AOPS.old fun hold2 => ?_
      refine AOPS.acall (next_ac l p2 id _ _ dl hl hp2 (by simp [hH]) hold2) rfl rfl rfl hb139 (by simp (disch := first|omega|(simp only[ln];omega)) [idf_Wd']) (by simp (disch := first|omega|(simp only[ln];omega))) (by simp) ?_
      rintro _ _ nx3 ⟨⟨m2, rfl, m20, m21⟩, ⟨p3, hp3, rfl⟩, hnx3⟩
      try simp only [] at hnx3
      simp only [puts_some, updo]
      refine AOPS.all (by simp (disch := first|omega|(simp only[ln];omega)) [idf_Wd']; rfl) ?_
      refine hK8 _ ?_
      refine AWP.seqk fun K9 hK9 => ?_
      refine AWP.region (AOPS.all (by simp (disch := first|omega|(simp only[ln];omega)) [idf_Wd', hnz]; rfl) ?_)
      refine hK9 _ ?_
      refine AWP.ret ?_
      exact hK _ _ _ _ _ trivial (Fin.mk (r := .int .i64 ((m * 256 + m2).tmod n)) (by simp [aRes, aResL, aRes1, idf_Wd'])) (⟨⟨_, rfl, by rw [tm _ (by omega)]; exact em0 _, by rw [tm _ (by omega)]; exact em1 _⟩, ⟨p3, hp3, by simp [hupd_same]⟩, by first | exact Nat.le_trans hnx2 hnx3 | (simp at *; omega)⟩)

set_option maxHeartbeats 1000000 in
theorem once_ac (n : Int) (hn0 : 1 < n) (hn1 : n ≤ 65536) (l : List Int) (p id : Nat) (H : Heap) (nx : Nat) (dl : Dig 256 l) (hl : l.length ≤ 1048576) (hp : p ≤ l.length) (hH : H id = some (2, [[Wd .u8 l, .int .i64 (p : Int)]])) (hd : ∀ i q, H i = some q → i < nx) : ACall Try.prog 46 [.ptr id 0 0, .int .i64 n] H nx (fun r H' nx' => (∃ b : Bool, r = .bool b) ∧ (∃ p' : Nat, p' ≤ l.length ∧ H' = hupd H id (some (2, [[Wd .u8 l, .int .i64 (p' : Int)]]))) ∧ nx ≤ nx') := by
  refine ACall.body Try.func46 rfl 11 rfl fun K hK => ?_
  refine AWP.seqk fun K1 hK1 => ?_
  refine AWP.region (AOPS.all (by simp (disch := first|omega|(simp only[ln];omega)) [idf_Wd']; rfl) ?_)
  refine hK1 _ ?_
  refine AWP.seqk fun K2 hK2 => ?_
  refine AWP.region ?_
  refine AOPS.runk 2 (by simp (disch := first|omega|(simp only[ln];omega)) [List.take_succ_cons, List.take_zero, idf_Wd']; rfl) ?_
  simp only [List.drop_succ_cons, List.drop_zero]
  refine AOPS.old fun hold2 => ?_
  refine AOPS.acall (below_ac n hn0 hn1 l p id _ _ dl hl hp (by simp [hH]) hold2) rfl rfl rfl hb92 (by simp (disch := first|omega|(simp only[ln];omega)) [idf_Wd']) (by simp (disch := first|omega|(simp only[ln];omega))) (by simp) ?_
  rintro _ _ nx2 ⟨⟨k, rfl, k0, k1⟩, ⟨p2, hp2, rfl⟩, hnx2⟩
  try simp only [] at hnx2
  simp only [puts_some, updo]
  refine AOPS.all (by simp (disch := first|omega|(simp only[ln];omega)) [idf_Wd']; rfl) ?_
  refine hK2 _ ?_
  refine AWP.ret ?_
  exact hK _ _ _ _ _ trivial (Fin.mk (r := .bool (k == n - 1)) (by simp [aRes, aResL, aRes1, idf_Wd'])) (⟨⟨_, rfl⟩, ⟨p2, hp2, by simp [hupd_same]⟩, by first | exact hnx2 | (simp at *; omega)⟩)

set_option maxHeartbeats 1000000 in
theorem word_ac (l : List Int) (p id : Nat) (H : Heap) (nx : Nat) (dl : Dig 256 l) (hl : l.length ≤ 1048576) (hp : p ≤ l.length) (hH : H id = some (2, [[Wd .u8 l, .int .i64 (p : Int)]])) (hd : ∀ i q, H i = some q → i < nx) : ACall Try.prog 96 [.ptr id 0 0] H nx (fun r H' nx' => (∃ n : Int, r = .int .u64 n ∧ U64 n) ∧ (∃ p' : Nat, p' ≤ l.length ∧ H' = hupd H id (some (2, [[Wd .u8 l, .int .i64 (p' : Int)]]))) ∧ nx ≤ nx') := by
  refine ACall.body Try.func96 rfl 16 rfl fun K hK => ?_
  refine AWP.seqk fun K1 hK1 => ?_
  refine AWP.region (AOPS.all (by simp (disch := first|omega|(simp only[ln];omega)) [idf_Wd']; rfl) ?_)
  refine hK1 _ ?_
  refine AWP.seqk fun K2 hK2 => ?_
  refine AWP.region (AOPS.all (by simp (disch := first|omega|(simp only[ln];omega)) [idf_Wd']; rfl) ?_)
  refine hK2 _ ?_
  refine AWP.seqk fun K3 hK3 => ?_
  refine AWP.seqk fun K4 hK4 => ?_
  refine AWP.region (AOPS.all (by simp (disch := first|omega|(simp only[ln];omega)) [idf_Wd']; rfl) ?_)
  refine hK4 _ ?_
  refine AWP.block ?_
  refine AWP.loop (fun N s => ∃ (i p' : Nat) (x : Int), N = 8 - i ∧ i ≤ 8 ∧ p' ≤ l.length ∧ U64 x ∧ s.env 0 = .ptr id 0 0 ∧ s.env 3 = .int .u64 x ∧ s.env 4 = .int .i64 (i : Int) ∧ s.heap = hupd H id (some (2, [[Wd .u8 l, .int .i64 (p' : Int)]])) ∧ nx ≤ s.nx ∧ s.nt = 16) (8) (⟨0, p, 0, by omega, by omega, hp, by unfold U64; omega, by simp, by simp, by simp, by simp [hupd_id hH], by simp, rfl⟩) ?_
  rintro N ⟨e, HH, mm, nt⟩ ⟨i, q, x, rfl, hi, hq, hx, h0, h3, h4, rfl, hm, rfl⟩
  simp only [] at h0 h3 h4 hm
  refine AWP.seqk fun K5 hK5 => ?_
  refine AWP.seqk fun K6 hK6 => ?_
  refine AWP.region (AOPS.all (by simp (disch := first|omega|(simp only[ln];omega)) [idf_Wd', h4]; rfl) ?_)
  refine hK6 _ ?_
  refine cond_ok _ (by simp (disch := first|omega|(simp only[ln];omega)); rfl) (fun h6 => ?_) (fun h6 => ?_)
  · try simp only [decide_eq_true_eq, decide_eq_false_iff_not] at h6
    have hi' : i < 8 := by omega
    refine AWP.skip ?_
    refine hK5 _ ?_
    refine AWP.seqk fun K7 hK7 => ?_
    refine AWP.block ?_
    refine AWP.region ?_
    refine AOPS.runk 3 (by simp (disch := first|omega|(simp only[ln];omega)) [List.take_succ_cons, List.take_zero, idf_Wd', h0, h3, IntKind.bits]; rfl) ?_
    simp only [List.drop_succ_cons, List.drop_zero]
    refine AOPS.old fun hold3 => ?_
    refine AOPS.acall (next_ac l q id _ _ dl hl hq (by simp) hold3) rfl rfl rfl hb139 (by simp (disch := first|omega|(simp only[ln];omega)) [idf_Wd', h0, h3, IntKind.bits]) (by simp (disch := first|omega|(simp only[ln];omega)) [h0, h3, IntKind.bits]) (by simp) ?_
    rintro _ _ nx2 ⟨⟨m, rfl, m0, m1⟩, ⟨p2, hp2, rfl⟩, hnx2⟩
    try simp only [] at hnx2
    have ox := or_u64 (wrap_U64 (x * 2 ^ 8)) (show U64 m by unfold U64; omega)
    try simp only [] at ox
    simp only [puts_some, updo]
    refine AOPS.all (by simp (disch := first|omega|(simp only[ln];omega)) [idf_Wd', h0, h3, IntKind.bits]; rfl) ?_
    refine hK7 _ ?_
    refine AWP.region (AOPS.all (by simp (disch := first|omega|(simp only[ln];omega)) [idf_Wd', h4]; rfl) ?_)
    refine ⟨8 - (i + 1), by omega, i + 1, p2, _, rfl, by omega, hp2, ox, by simp [h0], by simp [IntKind.bits], by simp (disch := omega) [h4], by simp [hupd_same], by simp at *; omega, rfl⟩
  · try simp only [decide_eq_true_eq, decide_eq_false_iff_not] at h6
    refine AWP.exit ?_
    refine hK3 _ ?_
    refine AWP.seqk fun K8 hK8 => ?_
    refine AWP.region (AOPS.all (by simp (disch := first|omega|(simp only[ln];omega)) [idf_Wd', h3]; rfl) ?_)
    refine hK8 _ ?_
    refine AWP.ret ?_
    exact hK _ _ _ _ _ trivial (Fin.mk (r := .int .u64 x) (by simp [aRes, aResL, aRes1, idf_Wd'])) (⟨⟨x, rfl, hx⟩, ⟨q, hq, rfl⟩, hm⟩)

end Go.Proofs.Ytdcggmbnjonemaa

/- Walks: drawn numbers near others; drawn spots. -/
namespace Go.Proofs.Ytdcggmbnjonemaa
open Go Go.RowKit
set_option linter.unusedSimpArgs false
set_option linter.unusedVariables false
set_option maxRecDepth 100000
attribute [local simp] List.getElem?_cons_zero List.getElem?_cons_succ List.getElem?_toArray runOps stepOp.eq_def agd.eq_def dstOk.eq_def opVal.eq_def opNew.eq_def opSto.eq_def ev.eq_def cv.eq_def puts_some puts_none upd_ap lst.eq_def aBin.eq_def aUn.eq_def aBi_str aBi_isl aBi_osl aBi_nsl aBi_max aBi_min aBi_max3 aConv.eq_def aLd.eq_def aLoad.eq_def aField.eq_def aFld.eq_def aIdx_isl aIdx_osl aSlc_isl aSlc_osl aSlc_str aSlc_nsl bnd.eq_def evs_nil evs_cons aBuild.eq_def aFill splice.eq_def cells_agg cells_int cells_bool cells_str cells_nil cells_nsl cells_isl cells_osl cells_ptr cells_ip cells_fn cells_Wd one_int one_bool one_str one_nil one_nsl one_isl one_osl one_ptr one_ip one_fn one_Wd aSets hupd_eq hupd_ne wrap_i64s wrap_u64s wrap_u32s wrap_u8s wd_getD wd_set wd_len wd_replicate wd_one wd_fold fz_osl hupd_same aSix.eq_def aEqS.eq_def aEqB_bool aEqB_nsl aEqB_nil
attribute [local simp] szT2 byT2 agT2 unT2 zoT2 szT3 byT3 agT3 unT3 zoT3 szT31 byT31 agT31 unT31 zoT31 szT60 byT60 agT60 flT60 fdT60_0 fdT60_1 zoT60

set_option maxHeartbeats 1000000 in
theorem near_ac (a b : Int) (ha : -1152921504606846976 ≤ a) (hab : a ≤ b) (hb : b ≤ 1152921504606846976) (l : List Int) (p id : Nat) (H : Heap) (nx : Nat) (dl : Dig 256 l) (hl : l.length ≤ 1048576) (hp : p ≤ l.length) (hH : H id = some (2, [[Wd .u8 l, .int .i64 (p : Int)]])) (hd : ∀ i q, H i = some q → i < nx) : ACall Try.prog 97 [.ptr id 0 0, .int .i64 a, .int .i64 b] H nx (fun r H' nx' => (∃ k : Int, r = .int .i64 k ∧ a ≤ k ∧ k ≤ b) ∧ (∃ p' : Nat, p' ≤ l.length ∧ H' = hupd H id (some (2, [[Wd .u8 l, .int .i64 (p' : Int)]]))) ∧ nx ≤ nx') := by
  have hid := hd id _ hH
  refine ACall.body Try.func97 rfl 31 rfl fun K hK => ?_
  refine AWP.seqk fun K1 hK1 => ?_
  refine AWP.region (AOPS.all (by simp (disch := first|omega|(simp only[ln];omega)) [idf_Wd']; rfl) ?_)
  refine hK1 _ ?_
  refine AWP.seqk fun K2 hK2 => ?_
  refine AWP.seqk fun K3 hK3 => ?_
  refine AWP.region ?_
  refine AOPS.runk 1 (by simp (disch := first|omega|(simp only[ln];omega)) [List.take_succ_cons, List.take_zero, idf_Wd']; rfl) ?_
  simp only [List.drop_succ_cons, List.drop_zero]
  refine AOPS.old fun hold1 => ?_
  refine AOPS.acall (below_ac 8 (by omega) (by omega) l p id _ _ dl hl hp (by simp [hH]) hold1) rfl rfl rfl hb92 (by simp (disch := first|omega|(simp only[ln];omega)) [idf_Wd']) (by simp (disch := first|omega|(simp only[ln];omega))) (by simp) ?_
  rintro _ _ nx2 ⟨⟨k, rfl, k0, k1⟩, ⟨p2, hp2, rfl⟩, hnx2⟩
  try simp only [] at hnx2
  simp only [puts_some, updo]
  refine AOPS.nil ?_
  refine hK3 _ ?_
  refine AWP.block ?_
  refine AWP.seqk fun K4 hK4 => ?_
  refine AWP.region (AOPS.all (by simp (disch := first|omega|(simp only[ln];omega)) [idf_Wd']; rfl) ?_)
  refine hK4 _ ?_
  refine cond_ok _ (by simp (disch := first|omega|(simp only[ln];omega)); rfl) (fun h9 => ?_) (fun h9 => ?_)
  · try simp only [decide_eq_true_eq, decide_eq_false_iff_not] at h9
    refine AWP.seqk fun K5 hK5 => ?_
    refine AWP.region (AOPS.all (by simp (disch := first|omega|(simp only[ln];omega)) [idf_Wd']; rfl) ?_)
    refine hK5 _ ?_
    refine AWP.ret ?_
    exact hK _ _ _ _ _ trivial (Fin.mk (r := .int .i64 a) (by simp [aRes, aResL, aRes1, idf_Wd'])) (⟨⟨_, rfl, by omega, by omega⟩, ⟨p2, hp2, by simp [hupd_same]⟩, by first | exact hnx2 | (simp at *; omega)⟩)
  · try simp only [decide_eq_true_eq, decide_eq_false_iff_not] at h9
    refine AWP.seqk fun K6 hK6 => ?_
    refine AWP.region (AOPS.all (by simp (disch := first|omega|(simp only[ln];omega)) [idf_Wd']; rfl) ?_)
    refine hK6 _ ?_
    refine cond_ok _ (by simp (disch := first|omega|(simp only[ln];omega)); rfl) (fun h12 => ?_) (fun h12 => ?_)
    · try simp only [decide_eq_true_eq, decide_eq_false_iff_not] at h12
      refine AWP.seqk fun K7 hK7 => ?_
      refine AWP.region (AOPS.all (by simp (disch := first|omega|(simp only[ln];omega)) [idf_Wd']; rfl) ?_)
      refine hK7 _ ?_
      refine AWP.ret ?_
      exact hK _ _ _ _ _ trivial (Fin.mk (r := .int .i64 b) (by simp [aRes, aResL, aRes1, idf_Wd'])) (⟨⟨_, rfl, by omega, by omega⟩, ⟨p2, hp2, by simp [hupd_same]⟩, by first | exact hnx2 | (simp at *; omega)⟩)
    · try simp only [decide_eq_true_eq, decide_eq_false_iff_not] at h12
      refine AWP.skip ?_
      refine hK2 _ ?_
      refine AWP.seqk fun K8 hK8 => ?_
      refine AWP.seqk fun K9 hK9 => ?_
      refine AWP.region (AOPS.all (by simp (disch := first|omega|(simp only[ln];omega)) [idf_Wd']; rfl) ?_)
      refine hK9 _ ?_
      refine cond_ok _ (by simp (disch := first|omega|(simp only[ln];omega)); rfl) (fun h17 => ?_) (fun h17 => ?_)
      · simp at h17; omega
      · try simp only [decide_eq_true_eq, decide_eq_false_iff_not] at h17
        refine AWP.skip ?_
        refine hK8 _ ?_
        refine AWP.seqk fun K10 hK10 => ?_
        have hdz : b - a + 1 ≠ 0 := by omega
        have cw : IntKind.u64.wrap (b - a + 1) = b - a + 1 := wrap_u64s (by omega) (by omega)
        have tmw : ∀ w : Int, 0 ≤ w → (w / 2).tmod (b - a + 1) = w / 2 % (b - a + 1) := fun w h => Int.tmod_eq_emod_of_nonneg (by omega)
        have sw : ∀ w : Int, 0 ≤ w → IntKind.i64.wrap (w / 2 % (b - a + 1)) = w / 2 % (b - a + 1) := fun w h => by
          have e0 := Int.emod_nonneg (w / 2) hdz
          have e1 := Int.emod_lt_of_pos (w / 2) (show 0 < b - a + 1 by omega)
          exact wrap_i64s (by omega) (by omega)
        refine AWP.region ?_
        refine AOPS.runk 2 (by simp (disch := first|omega|(simp only[ln];omega)) [List.take_succ_cons, List.take_zero, idf_Wd', IntKind.bits, Int.fdiv_eq_ediv_of_nonneg, hdz, tmw, cw, sw]; rfl) ?_
        simp only [List.drop_succ_cons, List.drop_zero]
        refine AOPS.old fun hold2 => ?_
        refine AOPS.acall (word_ac l p2 id _ _ dl hl hp2 (by simp) hold2) rfl rfl rfl hb96 (by simp (disch := first|omega|(simp only[ln];omega)) [idf_Wd', IntKind.bits, Int.fdiv_eq_ediv_of_nonneg, hdz, tmw, cw, sw]) (by simp (disch := first|omega|(simp only[ln];omega)) [IntKind.bits, Int.fdiv_eq_ediv_of_nonneg, hdz, tmw, cw, sw]) (by simp) ?_
        rintro _ _ nx3 ⟨⟨w, rfl, hw0, hw1⟩, ⟨p3, hp3, rfl⟩, hnx3⟩
        have e0 := Int.emod_nonneg (w / 2) hdz
        have e1 := Int.emod_lt_of_pos (w / 2) (show 0 < b - a + 1 by omega)
        try simp only [] at hnx3
        simp only [puts_some, updo]
        refine AOPS.all (by simp (disch := first|omega|(simp only[ln];omega)) [idf_Wd', IntKind.bits, Int.fdiv_eq_ediv_of_nonneg, hdz, tmw, cw, sw]; rfl) ?_
        refine hK10 _ ?_
        refine AWP.ret ?_
        exact hK _ _ _ _ _ trivial (Fin.mk (r := .int .i64 (a + w / 2 % (b - a + 1))) (by simp [aRes, aResL, aRes1, idf_Wd'])) (⟨⟨_, rfl, by omega, by omega⟩, ⟨p3, hp3, by simp [hupd_same]⟩, by first | exact Nat.le_trans hnx2 hnx3 | (simp at *; omega)⟩)

end Go.Proofs.Ytdcggmbnjonemaa

/- Walks: drawn numbers in four words. -/
namespace Go.Proofs.Ytdcggmbnjonemaa
open Go Go.RowKit
set_option linter.unusedSimpArgs false
set_option linter.unusedVariables false
set_option maxRecDepth 100000
attribute [local simp] List.getElem?_cons_zero List.getElem?_cons_succ List.getElem?_toArray runOps stepOp.eq_def agd.eq_def dstOk.eq_def opVal.eq_def opNew.eq_def opSto.eq_def ev.eq_def cv.eq_def puts_some puts_none upd_ap lst.eq_def aBin.eq_def aUn.eq_def aBi_str aBi_isl aBi_osl aBi_nsl aBi_max aBi_min aBi_max3 aConv.eq_def aLd.eq_def aLoad.eq_def aField.eq_def aFld.eq_def aIdx_isl aIdx_osl aSlc_isl aSlc_osl aSlc_str aSlc_nsl bnd.eq_def evs_nil evs_cons aBuild.eq_def aFill splice.eq_def cells_agg cells_int cells_bool cells_str cells_nil cells_nsl cells_isl cells_osl cells_ptr cells_ip cells_fn cells_Wd one_int one_bool one_str one_nil one_nsl one_isl one_osl one_ptr one_ip one_fn one_Wd aSets hupd_eq hupd_ne wrap_i64s wrap_u64s wrap_u32s wrap_u8s wd_getD wd_set wd_len wd_replicate wd_one wd_fold fz_osl hupd_same aSix.eq_def aEqS.eq_def aEqB_bool aEqB_nsl aEqB_nil
attribute [local simp] szT2 byT2 agT2 unT2 zoT2 szT3 byT3 agT3 unT3 zoT3 szT31 byT31 agT31 unT31 zoT31 szT33 byT33 agT33 flT33 fdT33_0 fdT33_1 fdT33_2 fdT33_3 zoT33 szT90 byT90 agT90 elT90 unT90 zoT90 szT144 byT144 agT144 unT144 zoT144 szT180 byT180 agT180 unT180 zoT180 szT182 byT182 agT182 elT182 unT182 zoT182 szT183 byT183 agT183 elT183 unT183 zoT183

set_option maxHeartbeats 4000000 in
theorem wide_ac (l : List Int) (p id : Nat) (H : Heap) (nx : Nat) (dl : Dig 256 l) (hl : l.length ≤ 1048576) (hp : p ≤ l.length) (hH : H id = some (2, [[Wd .u8 l, .int .i64 (p : Int)]])) (hd : ∀ i q, H i = some q → i < nx) : ACall Try.prog 94 [.ptr id 0 0] H nx (fun r H' nx' => (∃ x : W4, r = .agg [.int .u64 (x).a, .int .u64 (x).b, .int .u64 (x).c, .int .u64 (x).d] ∧ x.ok) ∧ (∃ p' : Nat, p' ≤ l.length ∧ H' = hupd H id (some (2, [[Wd .u8 l, .int .i64 (p' : Int)]]))) ∧ nx ≤ nx') := by
  have hid := hd id _ hH
  have t7l : tab7.length = 7 := rfl
  have hTl : (tab6.map W4.l).length = 6 := rfl
  obtain ⟨T, hT0⟩ : ∃ T, List.map W4.l tab6 = T := ⟨_, rfl⟩
  have hTx := gt6_get
  rw [hT0] at hTl hTx
  have hTy : ∀ (k : Nat) (h : k < T.length), T[k] = [.int .u64 (gt6 k).a, .int .u64 (gt6 k).b, .int .u64 (gt6 k).c, .int .u64 (gt6 k).d] := fun k h => by
    have := hTx k (by omega)
    rw [List.getElem?_eq_getElem h] at this
    simpa using this
  clear hTx
  refine ACall.body Try.func94 rfl 85 rfl fun K hK => ?_
  refine AWP.seqk fun K1 hK1 => ?_
  refine AWP.region (AOPS.all (by simp (disch := first|omega|(simp only[ln];omega)) [idf_Wd', idf_numS, cells_numS, numS_fold]; rfl) ?_)
  refine hK1 _ ?_
  refine AWP.seqk fun K2 hK2 => ?_
  refine AWP.seqk fun K3 hK3 => ?_
  refine AWP.region ?_
  refine AOPS.runk 1 (by simp (disch := first|omega|(simp only[ln];omega)) [List.take_succ_cons, List.take_zero, idf_Wd', idf_numS, cells_numS, numS_fold, hH]; rfl) ?_
  simp only [List.drop_succ_cons, List.drop_zero]
  refine AOPS.old fun hold1 => ?_
  refine AOPS.acall (below_ac 9 (by omega) (by omega) l p id _ _ dl hl hp (by simp (disch := omega) [hH]) hold1) rfl rfl rfl hb92 (by simp (disch := first|omega|(simp only[ln];omega)) [idf_Wd', hH, idf_numS, cells_numS, numS_fold]) (by simp (disch := first|omega|(simp only[ln];omega)) [hH]) (by simp) ?_
  rintro _ _ nx2 ⟨⟨k, rfl, k0, k1⟩, ⟨p2, hp2, rfl⟩, hnx2⟩
  try simp only [] at hnx2
  clear hold1
  simp only [puts_some, updo]
  refine AOPS.nil ?_
  refine hK3 _ ?_
  refine AWP.block ?_
  refine AWP.seqk fun K4 hK4 => ?_
  refine AWP.region (AOPS.all (by simp (disch := first|omega|(simp only[ln];omega)) [idf_Wd', idf_numS, cells_numS, numS_fold]; rfl) ?_)
  refine hK4 _ ?_
  refine cond_ok (k == 0) (by simp (disch := first|omega|(simp only[ln];omega))) (fun h9 => ?_) (fun h9 => ?_)
  · try simp only [decide_eq_true_eq, decide_eq_false_iff_not] at h9
    refine AWP.seqk fun K5 hK5 => ?_
    refine AWP.region ?_
    refine AOPS.runk 2 (by simp (disch := first|omega|(simp only[ln];omega)) [List.take_succ_cons, List.take_zero, idx_WdD (P := Try.prog) elT182 szT2, if_pos, idf_Wd', idf_numS, cells_numS, numS_fold, t7l]; rfl) ?_
    simp only [List.drop_succ_cons, List.drop_zero]
    refine AOPS.frz1 11 nx2 1 (wd .i64 tab7) (Wd .i64 tab7) (by simp; rfl) (by simp; first | exact fz_wd rfl | exact isl_take_wd (by decide)) ?_
    refine AOPS.old fun hold2 => ?_
    refine AOPS.acall (below_ac 7 (by omega) (by omega) l p2 id _ _ dl hl hp2 (by simp (disch := omega) [hH]) hold2) rfl rfl rfl hb92 (by simp (disch := first|omega|(simp only[ln];omega)) [idf_Wd', t7l, idf_numS, cells_numS, numS_fold]) (by simp (disch := first|omega|(simp only[ln];omega)) [t7l]) (by simp) ?_
    rintro _ _ nx3 ⟨⟨k7, rfl, k70, k71⟩, ⟨p3, hp3, rfl⟩, hnx3⟩
    try simp only [] at hnx3
    clear hold2
    have hk7 : k7.toNat < 7 := by omega
    simp only [puts_some, updo]
    refine AOPS.runk 2 (by simp (disch := first|omega|(simp only[ln];omega)) [List.take_succ_cons, List.take_zero, idx_WdD (P := Try.prog) elT182 szT2, if_pos, idf_Wd', idf_numS, cells_numS, numS_fold, t7l]; rfl) ?_
    simp only [List.drop_succ_cons, List.drop_zero]
    refine AOPS.fcall (wideOfS_fc (gt tab7 k7.toNat) (tab7_b _).1 (tab7_b _).2) rfl rfl rfl hb95 (by simp (disch := first|omega|(simp only[ln];omega)) [idf_Wd', t7l, idf_numS, cells_numS, numS_fold]) (by simp (disch := first|omega|(simp only[ln];omega)) [t7l]) (by simp) ?_
    simp only [puts_some, updo]
    refine AOPS.all (by simp (disch := first|omega|(simp only[ln];omega)) [idx_WdD (P := Try.prog) elT182 szT2, if_pos, idf_Wd', idf_numS, cells_numS, numS_fold, t7l]; rfl) ?_
    refine hK5 _ ?_
    refine AWP.ret ?_
    exact hK _ _ _ _ _ trivial ((Fin.mk (r := .agg [.int .u64 (W4z (gt tab7 k7.toNat)).a, .int .u64 (W4z (gt tab7 k7.toNat)).b, .int .u64 (W4z (gt tab7 k7.toNat)).c, .int .u64 (W4z (gt tab7 k7.toNat)).d]) (by simp (disch := omega) [aRes, aResL, aRes1, idf_Wd', idf_numS, cells_numS, numS_fold])).restr (fun i => decide (i < nx))) (⟨⟨W4z (gt tab7 k7.toNat), rfl, W4z_ok _⟩, ⟨p3, hp3, by simp (disch := first | omega | (simp; done) | (simp; omega)) [hrestr_in, hrestr_out, hrestr_all hd, hupd_same]⟩, by first | omega | (simp at *; omega)⟩)
  · try simp only [decide_eq_true_eq, decide_eq_false_iff_not] at h9
    refine AWP.seqk fun K6 hK6 => ?_
    refine AWP.region (AOPS.all (by simp (disch := first|omega|(simp only[ln];omega)) [idf_Wd', idf_numS, cells_numS, numS_fold]; rfl) ?_)
    refine hK6 _ ?_
    refine cond_ok (k == 1) (by simp (disch := first|omega|(simp only[ln];omega))) (fun h17 => ?_) (fun h17 => ?_)
    · try simp only [decide_eq_true_eq, decide_eq_false_iff_not] at h17
      refine AWP.seqk fun K7 hK7 => ?_
      refine AWP.region ?_
      refine AOPS.runk 8 (by simp (disch := first|omega|(simp only[ln];omega)) [List.take_succ_cons, List.take_zero, if_pos, idf_Wd', idf_numS, cells_numS, numS_fold, hTl, hTy]; rfl) ?_
      simp only [List.drop_succ_cons, List.drop_zero]
      refine AOPS.frz1 25 nx2 4 T (.isl T) (by simp [← hT0, tab6, W4.l]) (by simp; rw [← hT0]; exact fz_fill W4.l tab6 rfl) ?_
      refine AOPS.old fun hold8 => ?_
      refine AOPS.acall (below_ac 6 (by omega) (by omega) l p2 id _ _ dl hl hp2 (by simp (disch := omega) [hH]) hold8) rfl rfl rfl hb92 (by simp (disch := first|omega|(simp only[ln];omega)) [idf_Wd', hTl, hTy, idf_numS, cells_numS, numS_fold]) (by simp (disch := first|omega|(simp only[ln];omega)) [hTl, hTy]) (by simp) ?_
      rintro _ _ nx3 ⟨⟨k6, rfl, k60, k61⟩, ⟨p3, hp3, rfl⟩, hnx3⟩
      try simp only [] at hnx3
      clear hold8
      have hk6 : k6.toNat < 6 := by omega
      simp only [puts_some, updo]
      refine AOPS.all (by simp (disch := first|omega|(simp only[ln];omega)) [if_pos, idf_Wd', idf_numS, cells_numS, numS_fold, hTl, hTy]; rfl) ?_
      refine hK7 _ ?_
      refine AWP.ret ?_
      exact hK _ _ _ _ _ trivial ((Fin.mk (r := .agg [.int .u64 (gt6 k6.toNat).a, .int .u64 (gt6 k6.toNat).b, .int .u64 (gt6 k6.toNat).c, .int .u64 (gt6 k6.toNat).d]) (by simp (disch := omega) [aRes, aResL, aRes1, idf_Wd', idf_numS, cells_numS, numS_fold])).restr (fun i => decide (i < nx))) (⟨⟨gt6 k6.toNat, rfl, gt6_ok _⟩, ⟨p3, hp3, by simp (disch := first | omega | (simp; done) | (simp; omega)) [hrestr_in, hrestr_out, hrestr_all hd, hupd_same]⟩, by first | omega | (simp at *; omega)⟩)
    · try simp only [decide_eq_true_eq, decide_eq_false_iff_not] at h17
      refine AWP.seqk fun K8 hK8 => ?_
      refine AWP.region (AOPS.all (by simp (disch := first|omega|(simp only[ln];omega)) [idf_Wd', idf_numS, cells_numS, numS_fold]; rfl) ?_)
      refine hK8 _ ?_
      refine cond_ok (k == 2) (by simp (disch := first|omega|(simp only[ln];omega))) (fun h30 => ?_) (fun h30 => ?_)
      · try simp only [decide_eq_true_eq, decide_eq_false_iff_not] at h30
        refine AWP.seqk fun K9 hK9 => ?_
        refine AWP.region ?_
        refine AOPS.runk 1 (by simp (disch := first|omega|(simp only[ln];omega)) [List.take_succ_cons, List.take_zero, idf_Wd', idf_numS, cells_numS, numS_fold]; rfl) ?_
        simp only [List.drop_succ_cons, List.drop_zero]
        refine AOPS.old fun hold1 => ?_
        refine AOPS.acall (once_ac 2 (by omega) (by omega) l p2 id _ _ dl hl hp2 (by simp (disch := omega) [hH]) hold1) rfl rfl rfl hb46 (by simp (disch := first|omega|(simp only[ln];omega)) [idf_Wd', idf_numS, cells_numS, numS_fold]) (by simp (disch := first|omega|(simp only[ln];omega))) (by simp) ?_
        rintro _ _ nx3 ⟨⟨b, rfl⟩, ⟨p3, hp3, rfl⟩, hnx3⟩
        try simp only [] at hnx3
        clear hold1
        simp only [puts_some, updo]
        refine AOPS.runk 2 (by simp (disch := first|omega|(simp only[ln];omega)) [List.take_succ_cons, List.take_zero, idf_Wd', idf_numS, cells_numS, numS_fold]; rfl) ?_
        simp only [List.drop_succ_cons, List.drop_zero]
        refine AOPS.frz1 35 nx3 1 (wd .u32 [1]) (Wd .u32 [1]) (by simp) (by simp; first | exact fz_wd rfl | exact isl_take_wd (by simp)) ?_
        refine AOPS.old fun hold4 => ?_
        refine AOPS.acall (below_ac 255 (by omega) (by omega) l p3 id _ _ dl hl hp3 (by simp (disch := omega) [hH]) hold4) rfl rfl rfl hb92 (by simp (disch := first|omega|(simp only[ln];omega)) [idf_Wd', idf_numS, cells_numS, numS_fold]) (by simp (disch := first|omega|(simp only[ln];omega))) (by simp) ?_
        rintro _ _ nx4 ⟨⟨k8, rfl, k80, k81⟩, ⟨p4, hp4, rfl⟩, hnx4⟩
        try simp only [] at hnx4
        clear hold4
        obtain ⟨K8, rfl⟩ := Int.eq_ofNat_of_zero_le k80
        have hL := l1LeftI 1 K8 (by omega) (by rw [show ((1 : Nat) : Int) = 1 from rfl, dg_one]; simp)
        rw [show ((1 : Nat) : Int) = 1 from rfl, dg_one] at hL
        have bP := bg_pow K8 (by omega) b
        have bP0 := bg_pow K8 (by omega) false
        have hT := l1Trim_fc b (dg ((1 * 2 ^ K8 : Nat) : Int)) (by have := bP0.len32; rw [sg_false] at this; omega) (dg_dig _)
        rw [dg_val, Int.natAbs_natCast] at hT
        have hWd := l1Wide_fc bP (by omega)
        rw [wdT_l] at hWd
        unfold W4.l at hWd
        simp only [puts_some, updo]
        refine AOPS.fcall (hL) rfl rfl rfl hb140 (by simp (disch := first|omega|(simp only[ln];omega)) [idf_Wd', idf_numS, cells_numS, numS_fold]) (by simp (disch := first|omega|(simp only[ln];omega))) (by simp) ?_
        simp only [puts_some, updo]
        refine AOPS.fcall (hT) rfl rfl rfl hb138 (by simp (disch := first|omega|(simp only[ln];omega)) [idf_Wd', idf_numS, cells_numS, numS_fold]) (by simp (disch := first|omega|(simp only[ln];omega))) (by simp) ?_
        simp only [puts_some, updo]
        refine AOPS.fcall (hWd) rfl rfl rfl hb109 (by simp (disch := first|omega|(simp only[ln];omega)) [idf_Wd', idf_numS, cells_numS, numS_fold]) (by simp (disch := first|omega|(simp only[ln];omega))) (by simp) ?_
        simp only [puts_some, updo]
        refine AOPS.all (by simp (disch := first|omega|(simp only[ln];omega)) [idf_Wd', idf_numS, cells_numS, numS_fold]; rfl) ?_
        refine hK9 _ ?_
        refine AWP.seqk fun K10 hK10 => ?_
        refine AWP.region (AOPS.all (by simp (disch := first|omega|(simp only[ln];omega)) [idf_Wd', idf_numS, cells_numS, numS_fold]; rfl) ?_)
        refine hK10 _ ?_
        refine AWP.ret ?_
        exact hK _ _ _ _ _ trivial ((Fin.mk (r := .agg [.int .u64 (W4z (sg b ((1 * 2 ^ K8 : Nat) : Int))).a, .int .u64 (W4z (sg b ((1 * 2 ^ K8 : Nat) : Int))).b, .int .u64 (W4z (sg b ((1 * 2 ^ K8 : Nat) : Int))).c, .int .u64 (W4z (sg b ((1 * 2 ^ K8 : Nat) : Int))).d]) (by simp (disch := omega) [aRes, aResL, aRes1, idf_Wd', idf_numS, cells_numS, numS_fold])).restr (fun i => decide (i < nx))) (⟨⟨W4z (sg b ((1 * 2 ^ K8 : Nat) : Int)), rfl, W4z_ok _⟩, ⟨p4, hp4, by simp (disch := first | omega | (simp; done) | (simp; omega)) [hrestr_in, hrestr_out, hrestr_all hd, hupd_same]⟩, by first | omega | (simp at *; omega)⟩)
      · try simp only [decide_eq_true_eq, decide_eq_false_iff_not] at h30
        refine AWP.seqk fun K11 hK11 => ?_
        refine AWP.region (AOPS.all (by simp (disch := first|omega|(simp only[ln];omega)) [idf_Wd', idf_numS, cells_numS, numS_fold]; rfl) ?_)
        refine hK11 _ ?_
        refine cond_ok (k == 3) (by simp (disch := first|omega|(simp only[ln];omega))) (fun h44 => ?_) (fun h44 => ?_)
        · try simp only [decide_eq_true_eq, decide_eq_false_iff_not] at h44
          refine AWP.seqk fun K12 hK12 => ?_
          refine AWP.region ?_
          refine AOPS.runk 1 (by simp (disch := first|omega|(simp only[ln];omega)) [List.take_succ_cons, List.take_zero, idf_Wd', idf_numS, cells_numS, numS_fold]; rfl) ?_
          simp only [List.drop_succ_cons, List.drop_zero]
          refine AOPS.old fun hold1 => ?_
          refine AOPS.acall (word_ac l p2 id _ _ dl hl hp2 (by simp (disch := omega) [hH]) hold1) rfl rfl rfl hb96 (by simp (disch := first|omega|(simp only[ln];omega)) [idf_Wd', idf_numS, cells_numS, numS_fold]) (by simp (disch := first|omega|(simp only[ln];omega))) (by simp) ?_
          rintro _ _ nx3 ⟨⟨wa, rfl, wau⟩, ⟨p3, hp3, rfl⟩, hnx3⟩
          try simp only [] at hnx3
          clear hold1
          simp only [puts_some, updo]
          refine AOPS.runk 1 (by simp (disch := first|omega|(simp only[ln];omega)) [List.take_succ_cons, List.take_zero, idf_Wd', idf_numS, cells_numS, numS_fold]; rfl) ?_
          simp only [List.drop_succ_cons, List.drop_zero]
          refine AOPS.old fun hold3 => ?_
          refine AOPS.acall (word_ac l p3 id _ _ dl hl hp3 (by simp (disch := omega) [hH]) hold3) rfl rfl rfl hb96 (by simp (disch := first|omega|(simp only[ln];omega)) [idf_Wd', idf_numS, cells_numS, numS_fold]) (by simp (disch := first|omega|(simp only[ln];omega))) (by simp) ?_
          rintro _ _ nx4 ⟨⟨wb, rfl, wbu⟩, ⟨p4, hp4, rfl⟩, hnx4⟩
          try simp only [] at hnx4
          clear hold3
          simp only [puts_some, updo]
          refine AOPS.runk 1 (by simp (disch := first|omega|(simp only[ln];omega)) [List.take_succ_cons, List.take_zero, idf_Wd', idf_numS, cells_numS, numS_fold]; rfl) ?_
          simp only [List.drop_succ_cons, List.drop_zero]
          refine AOPS.old fun hold5 => ?_
          refine AOPS.acall (word_ac l p4 id _ _ dl hl hp4 (by simp (disch := omega) [hH]) hold5) rfl rfl rfl hb96 (by simp (disch := first|omega|(simp only[ln];omega)) [idf_Wd', idf_numS, cells_numS, numS_fold]) (by simp (disch := first|omega|(simp only[ln];omega))) (by simp) ?_
          rintro _ _ nx5 ⟨⟨wc, rfl, wcu⟩, ⟨p5, hp5, rfl⟩, hnx5⟩
          try simp only [] at hnx5
          clear hold5
          simp only [puts_some, updo]
          refine AOPS.runk 1 (by simp (disch := first|omega|(simp only[ln];omega)) [List.take_succ_cons, List.take_zero, idf_Wd', idf_numS, cells_numS, numS_fold]; rfl) ?_
          simp only [List.drop_succ_cons, List.drop_zero]
          refine AOPS.old fun hold7 => ?_
          refine AOPS.acall (word_ac l p5 id _ _ dl hl hp5 (by simp (disch := omega) [hH]) hold7) rfl rfl rfl hb96 (by simp (disch := first|omega|(simp only[ln];omega)) [idf_Wd', idf_numS, cells_numS, numS_fold]) (by simp (disch := first|omega|(simp only[ln];omega))) (by simp) ?_
          rintro _ _ nx6 ⟨⟨wd, rfl, wdu⟩, ⟨p6, hp6, rfl⟩, hnx6⟩
          try simp only [] at hnx6
          clear hold7
          simp only [puts_some, updo]
          refine AOPS.all (by simp (disch := first|omega|(simp only[ln];omega)) [idf_Wd', idf_numS, cells_numS, numS_fold]; rfl) ?_
          refine hK12 _ ?_
          refine AWP.ret ?_
          exact hK _ _ _ _ _ trivial ((Fin.mk (r := .agg [.int .u64 (⟨wa, wb, wc, wd⟩ : W4).a, .int .u64 (⟨wa, wb, wc, wd⟩ : W4).b, .int .u64 (⟨wa, wb, wc, wd⟩ : W4).c, .int .u64 (⟨wa, wb, wc, wd⟩ : W4).d]) (by simp (disch := omega) [aRes, aResL, aRes1, idf_Wd', idf_numS, cells_numS, numS_fold])).restr (fun i => decide (i < nx))) (⟨⟨⟨wa, wb, wc, wd⟩, rfl, ⟨wau, wbu, wcu, wdu⟩⟩, ⟨p6, hp6, by simp (disch := first | omega | (simp; done) | (simp; omega)) [hrestr_in, hrestr_out, hrestr_all hd, hupd_same]⟩, by first | omega | (simp at *; omega)⟩)
        · try simp only [decide_eq_true_eq, decide_eq_false_iff_not] at h44
          refine AWP.seqk fun K13 hK13 => ?_
          refine AWP.region (AOPS.all (by simp (disch := first|omega|(simp only[ln];omega)) [idf_Wd', idf_numS, cells_numS, numS_fold]; rfl) ?_)
          refine hK13 _ ?_
          refine cond_ok (k == 4) (by simp (disch := first|omega|(simp only[ln];omega))) (fun h55 => ?_) (fun h55 => ?_)
          · try simp only [decide_eq_true_eq, decide_eq_false_iff_not] at h55
            refine AWP.seqk fun K14 hK14 => ?_
            refine AWP.region ?_
            refine AOPS.runk 1 (by simp (disch := first|omega|(simp only[ln];omega)) [List.take_succ_cons, List.take_zero, idf_Wd', idf_numS, cells_numS, numS_fold, IntKind.bits]; rfl) ?_
            simp only [List.drop_succ_cons, List.drop_zero]
            refine AOPS.old fun hold1 => ?_
            refine AOPS.acall (word_ac l p2 id _ _ dl hl hp2 (by simp (disch := omega) [hH]) hold1) rfl rfl rfl hb96 (by simp (disch := first|omega|(simp only[ln];omega)) [idf_Wd', IntKind.bits, idf_numS, cells_numS, numS_fold]) (by simp (disch := first|omega|(simp only[ln];omega)) [IntKind.bits]) (by simp) ?_
            rintro _ _ nx3 ⟨⟨wa, rfl, wau⟩, ⟨p3, hp3, rfl⟩, hnx3⟩
            try simp only [] at hnx3
            clear hold1
            simp only [puts_some, updo]
            refine AOPS.runk 1 (by simp (disch := first|omega|(simp only[ln];omega)) [List.take_succ_cons, List.take_zero, idf_Wd', idf_numS, cells_numS, numS_fold, IntKind.bits]; rfl) ?_
            simp only [List.drop_succ_cons, List.drop_zero]
            refine AOPS.old fun hold3 => ?_
            refine AOPS.acall (below_ac 64 (by omega) (by omega) l p3 id _ _ dl hl hp3 (by simp (disch := omega) [hH]) hold3) rfl rfl rfl hb92 (by simp (disch := first|omega|(simp only[ln];omega)) [idf_Wd', IntKind.bits, idf_numS, cells_numS, numS_fold]) (by simp (disch := first|omega|(simp only[ln];omega)) [IntKind.bits]) (by simp) ?_
            rintro _ _ nx4 ⟨⟨k9, rfl, k90, k91⟩, ⟨p4, hp4, rfl⟩, hnx4⟩
            try simp only [] at hnx4
            clear hold3
            obtain ⟨K9, rfl⟩ := Int.eq_ofNat_of_zero_le k90
            have us := shr_U64 wau K9
            simp only [puts_some, updo]
            refine AOPS.runk 3 (by simp (disch := first|omega|(simp only[ln];omega)) [List.take_succ_cons, List.take_zero, idf_Wd', idf_numS, cells_numS, numS_fold, IntKind.bits]; rfl) ?_
            simp only [List.drop_succ_cons, List.drop_zero]
            refine AOPS.old fun hold7 => ?_
            refine AOPS.acall (word_ac l p4 id _ _ dl hl hp4 (by simp (disch := omega) [hH]) hold7) rfl rfl rfl hb96 (by simp (disch := first|omega|(simp only[ln];omega)) [idf_Wd', IntKind.bits, idf_numS, cells_numS, numS_fold]) (by simp (disch := first|omega|(simp only[ln];omega)) [IntKind.bits]) (by simp) ?_
            rintro _ _ nx5 ⟨⟨wb, rfl, wbu⟩, ⟨p5, hp5, rfl⟩, hnx5⟩
            try simp only [] at hnx5
            clear hold7
            simp only [puts_some, updo]
            refine AOPS.all (by simp (disch := first|omega|(simp only[ln];omega)) [idf_Wd', idf_numS, cells_numS, numS_fold, IntKind.bits]; rfl) ?_
            refine hK14 _ ?_
            refine AWP.ret ?_
            exact hK _ _ _ _ _ trivial ((Fin.mk (r := .agg [.int .u64 (⟨0, 0, wa.fdiv (2 ^ K9), wb⟩ : W4).a, .int .u64 (⟨0, 0, wa.fdiv (2 ^ K9), wb⟩ : W4).b, .int .u64 (⟨0, 0, wa.fdiv (2 ^ K9), wb⟩ : W4).c, .int .u64 (⟨0, 0, wa.fdiv (2 ^ K9), wb⟩ : W4).d]) (by simp (disch := omega) [aRes, aResL, aRes1, idf_Wd', idf_numS, cells_numS, numS_fold])).restr (fun i => decide (i < nx))) (⟨⟨⟨0, 0, wa.fdiv (2 ^ K9), wb⟩, rfl, ⟨by unfold U64; simp, by unfold U64; simp, us, wbu⟩⟩, ⟨p5, hp5, by simp (disch := first | omega | (simp; done) | (simp; omega)) [hrestr_in, hrestr_out, hrestr_all hd, hupd_same]⟩, by first | omega | (simp at *; omega)⟩)
          · try simp only [decide_eq_true_eq, decide_eq_false_iff_not] at h55
            refine AWP.seqk fun K15 hK15 => ?_
            refine AWP.region (AOPS.all (by simp (disch := first|omega|(simp only[ln];omega)) [idf_Wd', idf_numS, cells_numS, numS_fold]; rfl) ?_)
            refine hK15 _ ?_
            refine cond_ok (k == 5) (by simp (disch := first|omega|(simp only[ln];omega))) (fun h66 => ?_) (fun h66 => ?_)
            · try simp only [decide_eq_true_eq, decide_eq_false_iff_not] at h66
              refine AWP.seqk fun K16 hK16 => ?_
              refine AWP.region ?_
              refine AOPS.runk 1 (by simp (disch := first|omega|(simp only[ln];omega)) [List.take_succ_cons, List.take_zero, idf_Wd', idf_numS, cells_numS, numS_fold]; rfl) ?_
              simp only [List.drop_succ_cons, List.drop_zero]
              refine AOPS.old fun hold1 => ?_
              refine AOPS.acall (word_ac l p2 id _ _ dl hl hp2 (by simp (disch := omega) [hH]) hold1) rfl rfl rfl hb96 (by simp (disch := first|omega|(simp only[ln];omega)) [idf_Wd', idf_numS, cells_numS, numS_fold]) (by simp (disch := first|omega|(simp only[ln];omega))) (by simp) ?_
              rintro _ _ nx3 ⟨⟨wa, rfl, wau⟩, ⟨p3, hp3, rfl⟩, hnx3⟩
              try simp only [] at hnx3
              clear hold1
              have ia := wrap_I64 wa
              simp only [puts_some, updo]
              refine AOPS.runk 1 (by simp (disch := first|omega|(simp only[ln];omega)) [List.take_succ_cons, List.take_zero, idf_Wd', idf_numS, cells_numS, numS_fold]; rfl) ?_
              simp only [List.drop_succ_cons, List.drop_zero]
              refine AOPS.fcall (l1Int_fc (IntKind.i64.wrap wa) ia.1 ia.2) rfl rfl rfl hb89 (by simp (disch := first|omega|(simp only[ln];omega)) [idf_Wd', idf_numS, cells_numS, numS_fold]) (by simp (disch := first|omega|(simp only[ln];omega))) (by simp) ?_
              simp only [puts_some, updo]
              refine AOPS.runk 1 (by simp (disch := first|omega|(simp only[ln];omega)) [List.take_succ_cons, List.take_zero, idf_Wd', idf_numS, cells_numS, numS_fold]; rfl) ?_
              simp only [List.drop_succ_cons, List.drop_zero]
              refine AOPS.old fun hold5 => ?_
              refine AOPS.acall (word_ac l p3 id _ _ dl hl hp3 (by simp (disch := omega) [hH]) hold5) rfl rfl rfl hb96 (by simp (disch := first|omega|(simp only[ln];omega)) [idf_Wd', idf_numS, cells_numS, numS_fold]) (by simp (disch := first|omega|(simp only[ln];omega))) (by simp) ?_
              rintro _ _ nx4 ⟨⟨wb, rfl, wbu⟩, ⟨p4, hp4, rfl⟩, hnx4⟩
              try simp only [] at hnx4
              clear hold5
              have ib := wrap_I64 wb
              have bAB := (Bg.i64 ia.1 ia.2).mul (Bg.i64 ib.1 ib.2)
              have hWd := l1Wide_fc bAB (by omega)
              rw [wdT_l] at hWd
              unfold W4.l at hWd
              simp only [puts_some, updo]
              refine AOPS.runk 1 (by simp (disch := first|omega|(simp only[ln];omega)) [List.take_succ_cons, List.take_zero, idf_Wd', idf_numS, cells_numS, numS_fold]; rfl) ?_
              simp only [List.drop_succ_cons, List.drop_zero]
              refine AOPS.fcall (l1Int_fc (IntKind.i64.wrap wb) ib.1 ib.2) rfl rfl rfl hb89 (by simp (disch := first|omega|(simp only[ln];omega)) [idf_Wd', idf_numS, cells_numS, numS_fold]) (by simp (disch := first|omega|(simp only[ln];omega))) (by simp) ?_
              simp only [puts_some, updo]
              refine AOPS.fcall (l1Mul_fc (Bg.i64 ia.1 ia.2) (Bg.i64 ib.1 ib.2) (by omega) (by omega)) rfl rfl rfl hb102 (by simp (disch := first|omega|(simp only[ln];omega)) [idf_Wd', idf_numS, cells_numS, numS_fold]) (by simp (disch := first|omega|(simp only[ln];omega))) (by simp) ?_
              simp only [puts_some, updo]
              refine AOPS.fcall (hWd) rfl rfl rfl hb109 (by simp (disch := first|omega|(simp only[ln];omega)) [idf_Wd', idf_numS, cells_numS, numS_fold]) (by simp (disch := first|omega|(simp only[ln];omega))) (by simp) ?_
              simp only [puts_some, updo]
              refine AOPS.all (by simp (disch := first|omega|(simp only[ln];omega)) [idf_Wd', idf_numS, cells_numS, numS_fold]; rfl) ?_
              refine hK16 _ ?_
              refine AWP.seqk fun K17 hK17 => ?_
              refine AWP.region (AOPS.all (by simp (disch := first|omega|(simp only[ln];omega)) [idf_Wd', idf_numS, cells_numS, numS_fold]; rfl) ?_)
              refine hK17 _ ?_
              refine AWP.ret ?_
              exact hK _ _ _ _ _ trivial ((Fin.mk (r := .agg [.int .u64 (W4z (IntKind.i64.wrap wa * IntKind.i64.wrap wb)).a, .int .u64 (W4z (IntKind.i64.wrap wa * IntKind.i64.wrap wb)).b, .int .u64 (W4z (IntKind.i64.wrap wa * IntKind.i64.wrap wb)).c, .int .u64 (W4z (IntKind.i64.wrap wa * IntKind.i64.wrap wb)).d]) (by simp (disch := omega) [aRes, aResL, aRes1, idf_Wd', idf_numS, cells_numS, numS_fold])).restr (fun i => decide (i < nx))) (⟨⟨W4z (IntKind.i64.wrap wa * IntKind.i64.wrap wb), rfl, W4z_ok _⟩, ⟨p4, hp4, by simp (disch := first | omega | (simp; done) | (simp; omega)) [hrestr_in, hrestr_out, hrestr_all hd, hupd_same]⟩, by first | omega | (simp at *; omega)⟩)
            · try simp only [decide_eq_true_eq, decide_eq_false_iff_not] at h66
              refine AWP.skip ?_
              refine hK2 _ ?_
              refine AWP.seqk fun K18 hK18 => ?_
              refine AWP.region ?_
              refine AOPS.runk 1 (by simp (disch := first|omega|(simp only[ln];omega)) [List.take_succ_cons, List.take_zero, idf_Wd', idf_numS, cells_numS, numS_fold]; rfl) ?_
              simp only [List.drop_succ_cons, List.drop_zero]
              refine AOPS.old fun hold1 => ?_
              refine AOPS.acall (near_ac (-60) (60) (by omega) (by omega) (by omega) l p2 id _ _ dl hl hp2 (by simp (disch := omega) [hH]) hold1) rfl rfl rfl hb97 (by simp (disch := first|omega|(simp only[ln];omega)) [idf_Wd', idf_numS, cells_numS, numS_fold]) (by simp (disch := first|omega|(simp only[ln];omega))) (by simp) ?_
              rintro _ _ nx3 ⟨⟨kn, rfl, kn0, kn1⟩, ⟨p3, hp3, rfl⟩, hnx3⟩
              try simp only [] at hnx3
              clear hold1
              simp only [puts_some, updo]
              refine AOPS.fcall (wideOfS_fc kn (by omega) (by omega)) rfl rfl rfl hb95 (by simp (disch := first|omega|(simp only[ln];omega)) [idf_Wd', idf_numS, cells_numS, numS_fold]) (by simp (disch := first|omega|(simp only[ln];omega))) (by simp) ?_
              simp only [puts_some, updo]
              refine AOPS.all (by simp (disch := first|omega|(simp only[ln];omega)) [idf_Wd', idf_numS, cells_numS, numS_fold]; rfl) ?_
              refine hK18 _ ?_
              refine AWP.ret ?_
              exact hK _ _ _ _ _ trivial ((Fin.mk (r := .agg [.int .u64 (W4z kn).a, .int .u64 (W4z kn).b, .int .u64 (W4z kn).c, .int .u64 (W4z kn).d]) (by simp (disch := omega) [aRes, aResL, aRes1, idf_Wd', idf_numS, cells_numS, numS_fold])).restr (fun i => decide (i < nx))) (⟨⟨W4z kn, rfl, W4z_ok _⟩, ⟨p3, hp3, by simp (disch := first | omega | (simp; done) | (simp; omega)) [hrestr_in, hrestr_out, hrestr_all hd, hupd_same]⟩, by first | omega | (simp at *; omega)⟩)

end Go.Proofs.Ytdcggmbnjonemaa

/- Walks: drawn points. -/
namespace Go.Proofs.Ytdcggmbnjonemaa
open Go Go.RowKit
set_option linter.unusedSimpArgs false
set_option linter.unusedVariables false
set_option maxRecDepth 100000
attribute [local simp] List.getElem?_cons_zero List.getElem?_cons_succ List.getElem?_toArray runOps stepOp.eq_def agd.eq_def dstOk.eq_def opVal.eq_def opNew.eq_def opSto.eq_def ev.eq_def cv.eq_def puts_some puts_none upd_ap lst.eq_def aBin.eq_def aUn.eq_def aBi_str aBi_isl aBi_osl aBi_nsl aBi_max aBi_min aBi_max3 aConv.eq_def aLd.eq_def aLoad.eq_def aField.eq_def aFld.eq_def aIdx_isl aIdx_osl aSlc_isl aSlc_osl aSlc_str aSlc_nsl bnd.eq_def evs_nil evs_cons aBuild.eq_def aFill splice.eq_def cells_agg cells_int cells_bool cells_str cells_nil cells_nsl cells_isl cells_osl cells_ptr cells_ip cells_fn cells_Wd one_int one_bool one_str one_nil one_nsl one_isl one_osl one_ptr one_ip one_fn one_Wd aSets hupd_eq hupd_ne wrap_i64s wrap_u64s wrap_u32s wrap_u8s wd_getD wd_set wd_len wd_replicate wd_one wd_fold fz_osl hupd_same aSix.eq_def aEqS.eq_def aEqB_bool aEqB_nsl aEqB_nil
attribute [local simp] szT2 byT2 agT2 unT2 zoT2 szT3 byT3 agT3 unT3 zoT3 szT29 byT29 agT29 elT29 unT29 zoT29 szT31 byT31 agT31 unT31 zoT31 szT33 byT33 agT33 flT33 fdT33_0 fdT33_1 fdT33_2 fdT33_3 zoT33 szT35 byT35 agT35 flT35 fdT35_0 fdT35_1 fdT35_2 zoT35 szT60 byT60 agT60 flT60 fdT60_0 fdT60_1 zoT60 szT139 byT139 agT139 flT139 fdT139_0 fdT139_1 zoT139

theorem open_ac (l : List Int) (H : Heap) (nx : Nat) : ACall Try.prog 44 [Wd .u8 l] H nx (fun r H' nx' => r = .ptr nx 0 0 ∧ H' = hupd H nx (some (2, [[Wd .u8 l, .int .i64 0]])) ∧ nx' = nx + 1) := by
  refine ACall.body Try.func44 rfl 6 rfl fun K hK => ?_
  refine AWP.seqk fun K1 hK1 => ?_
  refine AWP.region (AOPS.all (by simp (disch := first|omega|(simp only[ln];omega)) [idf_Wd']; rfl) ?_)
  refine hK1 _ ?_
  refine AWP.seqk fun K2 hK2 => ?_
  refine AWP.region (AOPS.all (by simp (disch := first|omega|(simp only[ln];omega)) [idf_Wd']; rfl) ?_)
  refine hK2 _ ?_
  refine AWP.ret ?_
  exact hK _ _ _ _ _ trivial (Fin.mk (r := .ptr nx 0 0) (by simp [aRes, aResL, aRes1, idf_Wd'])) (⟨rfl, by simp, by simp⟩)

end Go.Proofs.Ytdcggmbnjonemaa

/- Walks: FnTurns, walked. -/
namespace Go.Proofs.Ytdcggmbnjonemaa
open Go Go.RowKit
set_option linter.unusedSimpArgs false
set_option linter.unusedVariables false
set_option maxRecDepth 100000
attribute [local simp] List.getElem?_cons_zero List.getElem?_cons_succ List.getElem?_toArray runOps stepOp.eq_def agd.eq_def dstOk.eq_def opVal.eq_def opNew.eq_def opSto.eq_def ev.eq_def cv.eq_def puts_some puts_none upd_ap lst.eq_def aBin.eq_def aUn.eq_def aBi_str aBi_isl aBi_osl aBi_nsl aBi_max aBi_min aBi_max3 aConv.eq_def aLd.eq_def aLoad.eq_def aField.eq_def aFld.eq_def aIdx_isl aIdx_osl aSlc_isl aSlc_osl aSlc_str aSlc_nsl bnd.eq_def evs_nil evs_cons aBuild.eq_def aFill splice.eq_def cells_agg cells_int cells_bool cells_str cells_nil cells_nsl cells_isl cells_osl cells_ptr cells_ip cells_fn cells_Wd one_int one_bool one_str one_nil one_nsl one_isl one_osl one_ptr one_ip one_fn one_Wd aSets hupd_eq hupd_ne wrap_i64s wrap_u64s wrap_u32s wrap_u8s wd_getD wd_set wd_len wd_replicate wd_one wd_fold fz_osl hupd_same aSix.eq_def aEqS.eq_def aEqB_bool aEqB_nsl aEqB_nil
attribute [local simp] szT2 byT2 agT2 unT2 zoT2 szT3 byT3 agT3 unT3 zoT3 szT5 byT5 agT5 unT5 zoT5 szT29 byT29 agT29 elT29 unT29 zoT29 szT33 byT33 agT33 flT33 fdT33_0 fdT33_1 fdT33_2 fdT33_3 zoT33 szT35 byT35 agT35 flT35 fdT35_0 fdT35_1 fdT35_2 zoT35

theorem big_fc (l : List Int) : FC Try.prog 14 [Wd .u8 l] (.bool (decide (1048576 < (l.length : Int)))) := by
  refine FC.body Try.func14 rfl (by simp [idfL, idf, idfLL_iff, idf_Wd']) (by simp [idfL, idf, idfLL_iff, idf_Wd']) 6 rfl fun nx K hK => ?_
  refine AWP.seqk fun K1 hK1 => ?_
  refine AWP.region (AOPS.all (by simp (disch := first|omega|(simp only[ln];omega)) [idf_Wd']; rfl) ?_)
  refine hK1 _ ?_
  refine AWP.seqk fun K2 hK2 => ?_
  refine AWP.region (AOPS.all (by simp (disch := first|omega|(simp only[ln];omega)) [len_Wd (P := Try.prog) #[29] rfl elT29, idf_Wd']; rfl) ?_)
  refine hK2 _ ?_
  refine AWP.ret ?_
  exact hK _ _ _ _ trivial (Fin.mk (by simp (disch := first|omega|(simp only[ln];omega)) [aRes, aResL, aRes1, idf_Wd']))

end Go.Proofs.Ytdcggmbnjonemaa

/- Walks: points in order, between, crossings (both). -/
namespace Go.Proofs.Ytdcggmbnjonemaa
open Go Go.RowKit
set_option linter.unusedSimpArgs false
set_option linter.unusedVariables false
set_option maxRecDepth 100000
attribute [local simp] List.getElem?_cons_zero List.getElem?_cons_succ List.getElem?_toArray runOps stepOp.eq_def agd.eq_def dstOk.eq_def opVal.eq_def opNew.eq_def opSto.eq_def ev.eq_def cv.eq_def puts_some puts_none upd_ap lst.eq_def aBin.eq_def aUn.eq_def aBi_str aBi_isl aBi_osl aBi_nsl aBi_max aBi_min aBi_max3 aConv.eq_def aLd.eq_def aLoad.eq_def aField.eq_def aFld.eq_def aIdx_isl aIdx_osl aSlc_isl aSlc_osl aSlc_str aSlc_nsl bnd.eq_def evs_nil evs_cons aBuild.eq_def aFill splice.eq_def cells_agg cells_int cells_bool cells_str cells_nil cells_nsl cells_isl cells_osl cells_ptr cells_ip cells_fn cells_Wd one_int one_bool one_str one_nil one_nsl one_isl one_osl one_ptr one_ip one_fn one_Wd aSets hupd_eq hupd_ne wrap_i64s wrap_u64s wrap_u32s wrap_u8s wd_getD wd_set wd_len wd_replicate wd_one wd_fold fz_osl hupd_same aSix.eq_def aEqS.eq_def aEqB_bool aEqB_nsl aEqB_nil
attribute [local simp] szT2 byT2 agT2 unT2 zoT2 szT4 byT4 agT4 unT4 zoT4 szT33 byT33 agT33 flT33 fdT33_0 fdT33_1 fdT33_2 fdT33_3 zoT33 szT35 byT35 agT35 flT35 fdT35_0 fdT35_1 fdT35_2 zoT35 szT90 byT90 agT90 elT90 unT90 zoT90 szT92 byT92 agT92 flT92 fdT92_0 fdT92_1 zoT92 szT94 byT94 agT94 flT94 fdT94_0 fdT94_1 fdT94_2 zoT94 szT97 byT97 agT97 elT97 unT97 zoT97 szT99 byT99 agT99 flT99 fdT99_0 fdT99_1 zoT99 szT150 byT150 agT150 flT150 fdT150_0 fdT150_1 fdT150_2 zoT150

theorem eqW4n (n : Nat) (a b c d a' b' c' d' : Int) : eqW Try.prog (n + 2) 33 [.int .u64 a, .int .u64 b, .int .u64 c, .int .u64 d] [.int .u64 a', .int .u64 b', .int .u64 c', .int .u64 d'] = some ((a == a') && ((b == b') && ((c == c') && ((d == d') && true)))) := by
  have hs : Try.prog.stoodInHeld 33 = false := by kernel_rfl
  have hz : szOf Try.prog 31 = some 1 := by kernel_rfl
  have ha : aggT Try.prog 31 = some false := by kernel_rfl
  unfold eqW
  simp only [Try.underlying33, hs]
  simp [eqF, hz, ha, eqW1]
end Go.Proofs.Ytdcggmbnjonemaa

/- Walks: fractions of the program. -/
namespace Go.Proofs.Ytdcggmbnjonemaa
open Go Go.RowKit
set_option linter.unusedSimpArgs false
set_option linter.unusedVariables false
set_option maxRecDepth 100000
attribute [local simp] List.getElem?_cons_zero List.getElem?_cons_succ List.getElem?_toArray runOps stepOp.eq_def agd.eq_def dstOk.eq_def opVal.eq_def opNew.eq_def opSto.eq_def ev.eq_def cv.eq_def puts_some puts_none upd_ap lst.eq_def aBin.eq_def aUn.eq_def aBi_str aBi_isl aBi_osl aBi_nsl aBi_max aBi_min aBi_max3 aConv.eq_def aLd.eq_def aLoad.eq_def aField.eq_def aFld.eq_def aIdx_isl aIdx_osl aSlc_isl aSlc_osl aSlc_str aSlc_nsl bnd.eq_def evs_nil evs_cons aBuild.eq_def aFill splice.eq_def cells_agg cells_int cells_bool cells_str cells_nil cells_nsl cells_isl cells_osl cells_ptr cells_ip cells_fn cells_Wd one_int one_bool one_str one_nil one_nsl one_isl one_osl one_ptr one_ip one_fn one_Wd aSets hupd_eq hupd_ne wrap_i64s wrap_u64s wrap_u32s wrap_u8s wd_getD wd_set wd_len wd_replicate wd_one wd_fold fz_osl hupd_same aSix.eq_def aEqS.eq_def aEqB_bool aEqB_nsl aEqB_nil
attribute [local simp] szT2 byT2 agT2 unT2 zoT2 szT4 byT4 agT4 unT4 zoT4 szT31 byT31 agT31 unT31 zoT31 szT33 byT33 agT33 flT33 fdT33_0 fdT33_1 fdT33_2 fdT33_3 zoT33 szT40 byT40 agT40 flT40 fdT40_0 fdT40_1 zoT40 szT97 byT97 agT97 elT97 unT97 zoT97 szT99 byT99 agT99 flT99 fdT99_0 fdT99_1 zoT99 szT101 byT101 agT101 flT101 fdT101_0 fdT101_1 zoT101 szT162 byT162 agT162 elT162 unT162 zoT162

set_option maxHeartbeats 2000000 in
theorem over_fc {j : Nat} (a b : Int) (hb0 : b ≠ 0) (ha : Bg j a) (hb : Bg j b) (hj : j ≤ 16777216) : FC Try.prog 69 [numI a, numI b] (.tup [numI (a / b), numI (a % b)]) := by
  have hD := divWords_fc a.natAbs b.natAbs (by omega) (by have := ha.len; rw [mag_abs]; omega) (by have := hb.len; rw [mag_abs]; omega)
  rw [mag_abs, mag_abs] at hD
  have eu := eu_lem a b hb0
  generalize hq : ((a.natAbs / b.natAbs : Nat) : Int) = q0 at *
  generalize hr : ((a.natAbs % b.natAbs : Nat) : Int) = r0 at *
  have q0n : 0 ≤ q0 := by rw [← hq]; exact Int.natCast_nonneg _
  have r0n : 0 ≤ r0 := by rw [← hr]; exact Int.natCast_nonneg _
  have bq : Bg j q0 := by
    rw [← hq]; unfold Bg at *; rw [Int.natAbs_natCast]; have := Nat.div_le_self a.natAbs b.natAbs; omega
  have br : Bg j r0 := by
    rw [← hr]; unfold Bg at *; rw [Int.natAbs_natCast]; have := Nat.mod_le a.natAbs b.natAbs; omega
  have bqs : ∀ s, Bg j (sg s q0) := fun s => by cases s <;> simp only [sg_true, sg_false]; exact bq; exact bq.neg
  have brs : ∀ s, Bg j (sg s r0) := fun s => by cases s <;> simp only [sg_true, sg_false]; exact br; exact br.neg
  have lq := bq.len
  have lr := br.len
  have hT1 := made_fc (decide (a < 0) != decide (b < 0)) (mag q0) (by omega) (mag_dig _)
  rw [mag_val, Int.natAbs_of_nonneg q0n] at hT1
  have hT2 := made_fc (decide (a < 0)) (mag r0) (by omega) (mag_dig _)
  rw [mag_val, Int.natAbs_of_nonneg r0n] at hT2
  obtain ⟨S, hS⟩ : ∃ S, (decide (a < 0) != decide (b < 0)) = S := ⟨_, rfl⟩
  have hS2 : (decide (a < 0) == decide (b < 0)) = !S := by rw [← hS]; cases decide (a < 0) <;> cases decide (b < 0) <;> rfl
  rw [hS] at eu hT1
  refine FC.body Try.func69 rfl (by simp [idfL, idf, idfLL_iff, idf_Wd', idf_numI, cells_numI, numI_fold]) (by simp [idfL, idf, idfLL_iff, idf_Wd', idf_numI, cells_numI, numI_fold]) 45 rfl fun nx K hK => ?_
  refine AWP.seqk fun K1 hK1 => ?_
  refine AWP.region (AOPS.all (by simp (disch := first|omega|(simp only[ln];omega)) [idf_Wd', idf_numI, cells_numI, numI_fold]; rfl) ?_)
  refine hK1 _ ?_
  refine AWP.seqk fun K2 hK2 => ?_
  refine AWP.region ?_
  refine AOPS.runk 4 (by simp (disch := first|omega|(simp only[ln];omega)) [List.take_succ_cons, List.take_zero, idf_Wd', idf_numI, cells_numI, numI_fold]; rfl) ?_
  simp only [List.drop_succ_cons, List.drop_zero]
  refine AOPS.fcall (hD) rfl rfl rfl hb118 (by simp (disch := first|omega|(simp only[ln];omega)) [idf_Wd', idf_numI, cells_numI, numI_fold]) (by simp (disch := first|omega|(simp only[ln];omega))) (by simp) ?_
  simp only [puts_some, updo]
  refine AOPS.all (by simp (disch := first|omega|(simp only[ln];omega)) [idf_Wd', idf_numI, cells_numI, numI_fold]; rfl) ?_
  refine hK2 _ ?_
  refine AWP.seqk fun K3 hK3 => ?_
  refine AWP.old fun hold => ?_
  refine AWP.draw 13 Try.checked.mixed (by kernel_rfl) (by simp) ?_
  simp only [List.take_succ_cons, List.take_zero, List.drop_succ_cons, List.drop_zero]
  refine DP.runFk 6 (by simp (disch := first|omega|(simp only[ln];omega)) [runDf.eq_def, runF1, runF2, stepF.eq_def, updo.eq_def, hupo.eq_def, opSto1.eq_def, List.take_succ_cons, List.take_zero, idf_Wd', idf_numI, cells_numI, numI_fold, hS2]; rfl) fun fs4 hfs4 => ?_
  replace hfs4 : fs4.length = 6 := hfs4.trans rfl
  simp only [List.drop_succ_cons, List.drop_zero]
  refine DP.fcall (hT1) rfl rfl rfl hb111 (by simp (disch := first|omega|(simp only[ln];omega)) [idf_Wd', hS2, idf_numI, cells_numI, numI_fold]) (by simp (disch := first|omega|(simp only[ln];omega)) [hS2]) (by simp) ?_
  simp only [updo]
  refine DP.runF1q (by simp (disch := first|omega|(simp only[ln];omega)) [runDf.eq_def, runF1, runF2, stepF.eq_def, updo.eq_def, hupo.eq_def, opSto1.eq_def, idf_Wd', idf_numI, cells_numI, numI_fold, hS2]; rfl) fun fq5 hfq5 => ?_
  simp [qids, Op.operands, topId] at hfq5
  simp only [updo]
  refine DP.runF1q (by simp (disch := first|omega|(simp only[ln];omega)) [runDf.eq_def, runF1, runF2, stepF.eq_def, updo.eq_def, hupo.eq_def, opSto1.eq_def, idf_Wd', idf_numI, cells_numI, numI_fold, hS2]; rfl) fun fq6 hfq6 => ?_
  simp [qids, Op.operands, topId] at hfq6
  simp only [updo]
  refine DP.runF1q (by simp (disch := first|omega|(simp only[ln];omega)) [runDf.eq_def, runF1, runF2, stepF.eq_def, updo.eq_def, hupo.eq_def, opSto1.eq_def, idf_Wd', idf_numI, cells_numI, numI_fold, hS2]; rfl) fun fq7 hfq7 => ?_
  simp [qids, Op.operands, topId] at hfq7
  simp only [updo]
  refine DP.fcall (hT2) rfl rfl rfl hb111 (by simp (disch := first|omega|(simp only[ln];omega)) [idf_Wd', hS2, idf_numI, cells_numI, numI_fold]) (by simp (disch := first|omega|(simp only[ln];omega)) [hS2]) (by simp) ?_
  simp only [updo]
  refine DP.runFk 2 (by simp (disch := first|omega|(simp only[ln];omega)) [runDf.eq_def, runF1, runF2, stepF.eq_def, updo.eq_def, hupo.eq_def, opSto1.eq_def, List.take_succ_cons, List.take_zero, idf_Wd', idf_numI, cells_numI, numI_fold, hS2]; rfl) fun fs8 hfs8 => ?_
  replace hfs8 : fs8.length = 2 := hfs8.trans rfl
  simp only [List.drop_succ_cons, List.drop_zero]
  refine DQ.sto1 (m := 13) [7, 8, 9] _ (by simp (disch := first|omega|(simp only[ln];omega)) [runDf.eq_def, runF1, runF2, stepF.eq_def, updo.eq_def, hupo.eq_def, opSto1.eq_def, idf_Wd', idf_numI, cells_numI, numI_fold, hS2]; rfl) rfl (by simp only [List.length_append, List.length_cons, List.length_nil, hfs4, hfs8]; omega) (by kernel_rfl) (by intro k f hk hex; simp only [List.mem_cons, List.not_mem_nil, or_false] at hex; rcases hex with rfl | rfl | rfl <;> (simp [List.getElem?_append, hfs4, hfs8] at hk; subst hk; refine ⟨?_, by first | omega | (simp; done) | (simp; omega)⟩; simp [qids, Op.operands, Call.operands, topId, numS, numI, Wd, hfq5, hfq6, hfq7]; try omega)) ?_
  try simp only []
  refine DQ.sto1 (m := 13) [] _ (by simp (disch := first|omega|(simp only[ln];omega)) [runDf.eq_def, runF1, runF2, stepF.eq_def, updo.eq_def, hupo.eq_def, opSto1.eq_def, idf_Wd', idf_numI, cells_numI, numI_fold, hS2]; rfl) rfl (by simp only [List.length_append, List.length_cons, List.length_nil, hfs4, hfs8]; omega) (by kernel_rfl) (by intro k f hk hex; simp only [List.not_mem_nil] at hex) ?_
  try simp only []
  refine hK3 _ ?_
  refine AWP.seqk fun K9 hK9 => ?_
  refine AWP.seqk fun K10 hK10 => ?_
  refine AWP.region (AOPS.all (by simp (disch := first|omega|(simp only[ln];omega)) [idf_Wd', idf_numI, cells_numI, numI_fold]; rfl) ?_)
  refine hK10 _ ?_
  refine cond_ok (decide (sg (decide (a < 0)) r0 < 0)) (by simp (disch := first|omega|(simp only[ln];omega))) (fun h30 => ?_) (fun h30 => ?_)
  · try simp only [decide_eq_true_eq, decide_eq_false_iff_not] at h30
    refine AWP.seqk fun K11 hK11 => ?_
    refine AWP.draw 4 Try.checked.mixed (by kernel_rfl) (by simp) ?_
    simp only [List.take_succ_cons, List.take_zero, List.drop_succ_cons, List.drop_zero]
    refine DP.runFk 2 (by simp (disch := first|omega|(simp only[ln];omega)) [runDf.eq_def, runF1, runF2, stepF.eq_def, updo.eq_def, hupo.eq_def, opSto1.eq_def, List.take_succ_cons, List.take_zero, idf_Wd', idf_numI, cells_numI, numI_fold]; rfl) fun fs12 hfs12 => ?_
    replace hfs12 : fs12.length = 2 := hfs12.trans rfl
    simp only [List.drop_succ_cons, List.drop_zero]
    refine DP.fcall (abs_fc b) rfl rfl rfl hb119 (by simp (disch := first|omega|(simp only[ln];omega)) [idf_Wd', idf_numI, cells_numI, numI_fold]) (by simp (disch := first|omega|(simp only[ln];omega))) (by simp) ?_
    simp only [updo]
    refine DP.fcall (plus_fc (brs (decide (a < 0))) hb.abs (by omega) (by omega)) rfl rfl rfl hb70 (by simp (disch := first|omega|(simp only[ln];omega)) [idf_Wd', idf_numI, cells_numI, numI_fold]) (by simp (disch := first|omega|(simp only[ln];omega))) (by simp) ?_
    simp only [updo]
    refine DQ.runF (m := 4) (by simp only [List.length_append, List.length_cons, List.length_nil, hfs12]; omega) _ _ _ (by kernel_rfl) rfl (by simp (disch := first|omega|(simp only[ln];omega)) [runDf.eq_def, runF1, runF2, stepF.eq_def, updo.eq_def, hupo.eq_def, opSto1.eq_def, idf_Wd', idf_numI, cells_numI, numI_fold]; rfl) ?_
    refine hK11 _ ?_
    refine AWP.seqk fun K13 hK13 => ?_
    refine AWP.region (AOPS.all (by simp (disch := first|omega|(simp only[ln];omega)) [idf_Wd', idf_numI, cells_numI, numI_fold]; rfl) ?_)
    refine hK13 _ ?_
    refine cond_ok (decide (b < 0)) (by simp (disch := first|omega|(simp only[ln];omega))) (fun h36 => ?_) (fun h36 => ?_)
    · try simp only [decide_eq_true_eq, decide_eq_false_iff_not] at h36
      have e := eu.2.1 h30 h36
      refine AWP.draw 3 Try.checked.mixed (by kernel_rfl) (by simp) ?_
      simp only [List.take_succ_cons, List.take_zero, List.drop_succ_cons, List.drop_zero]
      refine DP.runFk 1 (by simp (disch := first|omega|(simp only[ln];omega)) [runDf.eq_def, runF1, runF2, stepF.eq_def, updo.eq_def, hupo.eq_def, opSto1.eq_def, List.take_succ_cons, List.take_zero, idf_Wd', idf_numI, cells_numI, numI_fold]; rfl) fun fs14 hfs14 => ?_
      replace hfs14 : fs14.length = 1 := hfs14.trans rfl
      simp only [List.drop_succ_cons, List.drop_zero]
      refine DP.fcall (whole_fc 1 (by omega) (by omega)) rfl rfl rfl hb66 (by simp (disch := first|omega|(simp only[ln];omega)) [idf_Wd', idf_numI, cells_numI, numI_fold]) (by simp (disch := first|omega|(simp only[ln];omega))) (by simp) ?_
      simp only [updo]
      refine DP.fcall (plus_fc (bqs S) (Bg.i64 (n := 1) (by omega) (by omega)) (by omega) (by omega)) rfl rfl rfl hb70 (by simp (disch := first|omega|(simp only[ln];omega)) [idf_Wd', idf_numI, cells_numI, numI_fold]) (by simp (disch := first|omega|(simp only[ln];omega))) (by simp) ?_
      simp only [updo]
      refine DQ.runF (m := 3) (by simp only [List.length_append, List.length_cons, List.length_nil, hfs14]; omega) _ _ _ (by kernel_rfl) rfl (by simp (disch := first|omega|(simp only[ln];omega)) [runDf.eq_def, runF1, runF2, stepF.eq_def, updo.eq_def, hupo.eq_def, opSto1.eq_def, idf_Wd', idf_numI, cells_numI, numI_fold]; rfl) ?_
      refine hK9 _ ?_
      refine AWP.seqk fun K15 hK15 => ?_
      refine AWP.old fun hold => ?_
      refine AWP.draw 2 Try.checked.mixed (by kernel_rfl) (by simp) ?_
      simp only [List.take_succ_cons, List.take_zero, List.drop_succ_cons, List.drop_zero]
      refine DP.runFk 1 (by simp (disch := first|omega|(simp only[ln];omega)) [runDf.eq_def, runF1, runF2, stepF.eq_def, updo.eq_def, hupo.eq_def, opSto1.eq_def, List.take_succ_cons, List.take_zero, idf_Wd', idf_numI, cells_numI, numI_fold]; rfl) fun fs16 hfs16 => ?_
      replace hfs16 : fs16.length = 1 := hfs16.trans rfl
      simp only [List.drop_succ_cons, List.drop_zero]
      refine DP.runF1q (by simp (disch := first|omega|(simp only[ln];omega)) [runDf.eq_def, runF1, runF2, stepF.eq_def, updo.eq_def, hupo.eq_def, opSto1.eq_def, idf_Wd', idf_numI, cells_numI, numI_fold]; rfl) fun fq17 hfq17 => ?_
      simp [qids, Op.operands, topId] at hfq17
      simp only [updo]
      refine DQ.sto1 (m := 2) [1] _ (by simp (disch := first|omega|(simp only[ln];omega)) [runDf.eq_def, runF1, runF2, stepF.eq_def, updo.eq_def, hupo.eq_def, opSto1.eq_def, idf_Wd', idf_numI, cells_numI, numI_fold]; rfl) rfl (by simp only [List.length_append, List.length_cons, List.length_nil, hfs16]; omega) (by kernel_rfl) (by intro k f hk hex; simp only [List.mem_cons, List.not_mem_nil, or_false] at hex; rcases hex with rfl <;> (simp [List.getElem?_append, hfs16] at hk; subst hk; refine ⟨?_, by first | omega | (simp; done) | (simp; omega)⟩; simp [qids, Op.operands, Call.operands, topId, numS, numI, Wd, hfq17]; try omega)) ?_
      try simp only []
      refine DQ.sto1 (m := 2) [] _ (by simp (disch := first|omega|(simp only[ln];omega)) [runDf.eq_def, runF1, runF2, stepF.eq_def, updo.eq_def, hupo.eq_def, opSto1.eq_def, idf_Wd', idf_numI, cells_numI, numI_fold]; rfl) rfl (by simp only [List.length_append, List.length_cons, List.length_nil, hfs16]; omega) (by kernel_rfl) (by intro k f hk hex; simp only [List.not_mem_nil] at hex) ?_
      try simp only []
      refine hK15 _ ?_
      refine AWP.ret ?_
      exact hK _ _ _ _ trivial ((Fin.mk (by simp [aRes, aResL, aRes1, idf_Wd', idf_numI, cells_numI, numI_fold]; rfl)).cast (by rw [← e.1, ← e.2, show ((b.natAbs : Nat) : Int) = -b by omega, ← Int.sub_eq_add_neg]))
    · try simp only [decide_eq_true_eq, decide_eq_false_iff_not] at h36
      have e := eu.2.2 h30 h36
      refine AWP.draw 3 Try.checked.mixed (by kernel_rfl) (by simp) ?_
      simp only [List.take_succ_cons, List.take_zero, List.drop_succ_cons, List.drop_zero]
      refine DP.runFk 1 (by simp (disch := first|omega|(simp only[ln];omega)) [runDf.eq_def, runF1, runF2, stepF.eq_def, updo.eq_def, hupo.eq_def, opSto1.eq_def, List.take_succ_cons, List.take_zero, idf_Wd', idf_numI, cells_numI, numI_fold]; rfl) fun fs18 hfs18 => ?_
      replace hfs18 : fs18.length = 1 := hfs18.trans rfl
      simp only [List.drop_succ_cons, List.drop_zero]
      refine DP.fcall (whole_fc 1 (by omega) (by omega)) rfl rfl rfl hb66 (by simp (disch := first|omega|(simp only[ln];omega)) [idf_Wd', idf_numI, cells_numI, numI_fold]) (by simp (disch := first|omega|(simp only[ln];omega))) (by simp) ?_
      simp only [updo]
      refine DP.fcall (less_fc (bqs S) (Bg.i64 (n := 1) (by omega) (by omega)) (by omega) (by omega)) rfl rfl rfl hb104 (by simp (disch := first|omega|(simp only[ln];omega)) [idf_Wd', idf_numI, cells_numI, numI_fold]) (by simp (disch := first|omega|(simp only[ln];omega))) (by simp) ?_
      simp only [updo]
      refine DQ.runF (m := 3) (by simp only [List.length_append, List.length_cons, List.length_nil, hfs18]; omega) _ _ _ (by kernel_rfl) rfl (by simp (disch := first|omega|(simp only[ln];omega)) [runDf.eq_def, runF1, runF2, stepF.eq_def, updo.eq_def, hupo.eq_def, opSto1.eq_def, idf_Wd', idf_numI, cells_numI, numI_fold]; rfl) ?_
      refine hK9 _ ?_
      refine AWP.seqk fun K19 hK19 => ?_
      refine AWP.old fun hold => ?_
      refine AWP.draw 2 Try.checked.mixed (by kernel_rfl) (by simp) ?_
      simp only [List.take_succ_cons, List.take_zero, List.drop_succ_cons, List.drop_zero]
      refine DP.runFk 1 (by simp (disch := first|omega|(simp only[ln];omega)) [runDf.eq_def, runF1, runF2, stepF.eq_def, updo.eq_def, hupo.eq_def, opSto1.eq_def, List.take_succ_cons, List.take_zero, idf_Wd', idf_numI, cells_numI, numI_fold]; rfl) fun fs20 hfs20 => ?_
      replace hfs20 : fs20.length = 1 := hfs20.trans rfl
      simp only [List.drop_succ_cons, List.drop_zero]
      refine DP.runF1q (by simp (disch := first|omega|(simp only[ln];omega)) [runDf.eq_def, runF1, runF2, stepF.eq_def, updo.eq_def, hupo.eq_def, opSto1.eq_def, idf_Wd', idf_numI, cells_numI, numI_fold]; rfl) fun fq21 hfq21 => ?_
      simp [qids, Op.operands, topId] at hfq21
      simp only [updo]
      refine DQ.sto1 (m := 2) [1] _ (by simp (disch := first|omega|(simp only[ln];omega)) [runDf.eq_def, runF1, runF2, stepF.eq_def, updo.eq_def, hupo.eq_def, opSto1.eq_def, idf_Wd', idf_numI, cells_numI, numI_fold]; rfl) rfl (by simp only [List.length_append, List.length_cons, List.length_nil, hfs20]; omega) (by kernel_rfl) (by intro k f hk hex; simp only [List.mem_cons, List.not_mem_nil, or_false] at hex; rcases hex with rfl <;> (simp [List.getElem?_append, hfs20] at hk; subst hk; refine ⟨?_, by first | omega | (simp; done) | (simp; omega)⟩; simp [qids, Op.operands, Call.operands, topId, numS, numI, Wd, hfq21]; try omega)) ?_
      try simp only []
      refine DQ.sto1 (m := 2) [] _ (by simp (disch := first|omega|(simp only[ln];omega)) [runDf.eq_def, runF1, runF2, stepF.eq_def, updo.eq_def, hupo.eq_def, opSto1.eq_def, idf_Wd', idf_numI, cells_numI, numI_fold]; rfl) rfl (by simp only [List.length_append, List.length_cons, List.length_nil, hfs20]; omega) (by kernel_rfl) (by intro k f hk hex; simp only [List.not_mem_nil] at hex) ?_
      try simp only []
      refine hK19 _ ?_
      refine AWP.ret ?_
      exact hK _ _ _ _ trivial ((Fin.mk (by simp [aRes, aResL, aRes1, idf_Wd', idf_numI, cells_numI, numI_fold]; rfl)).cast (by rw [← e.1, ← e.2, show ((b.natAbs : Nat) : Int) = b by omega]))
  · try simp only [decide_eq_true_eq, decide_eq_false_iff_not] at h30
    have e := eu.1 h30
    refine AWP.skip ?_
    refine hK9 _ ?_
    refine AWP.seqk fun K22 hK22 => ?_
    refine AWP.old fun hold => ?_
    refine AWP.draw 2 Try.checked.mixed (by kernel_rfl) (by simp) ?_
    simp only [List.take_succ_cons, List.take_zero, List.drop_succ_cons, List.drop_zero]
    refine DP.runFk 1 (by simp (disch := first|omega|(simp only[ln];omega)) [runDf.eq_def, runF1, runF2, stepF.eq_def, updo.eq_def, hupo.eq_def, opSto1.eq_def, List.take_succ_cons, List.take_zero, idf_Wd', idf_numI, cells_numI, numI_fold]; rfl) fun fs23 hfs23 => ?_
    replace hfs23 : fs23.length = 1 := hfs23.trans rfl
    simp only [List.drop_succ_cons, List.drop_zero]
    refine DP.runF1q (by simp (disch := first|omega|(simp only[ln];omega)) [runDf.eq_def, runF1, runF2, stepF.eq_def, updo.eq_def, hupo.eq_def, opSto1.eq_def, idf_Wd', idf_numI, cells_numI, numI_fold]; rfl) fun fq24 hfq24 => ?_
    simp [qids, Op.operands, topId] at hfq24
    simp only [updo]
    refine DQ.sto1 (m := 2) [1] _ (by simp (disch := first|omega|(simp only[ln];omega)) [runDf.eq_def, runF1, runF2, stepF.eq_def, updo.eq_def, hupo.eq_def, opSto1.eq_def, idf_Wd', idf_numI, cells_numI, numI_fold]; rfl) rfl (by simp only [List.length_append, List.length_cons, List.length_nil, hfs23]; omega) (by kernel_rfl) (by intro k f hk hex; simp only [List.mem_cons, List.not_mem_nil, or_false] at hex; rcases hex with rfl <;> (simp [List.getElem?_append, hfs23] at hk; subst hk; refine ⟨?_, by first | omega | (simp; done) | (simp; omega)⟩; simp [qids, Op.operands, Call.operands, topId, numS, numI, Wd, hfq24]; try omega)) ?_
    try simp only []
    refine DQ.sto1 (m := 2) [] _ (by simp (disch := first|omega|(simp only[ln];omega)) [runDf.eq_def, runF1, runF2, stepF.eq_def, updo.eq_def, hupo.eq_def, opSto1.eq_def, idf_Wd', idf_numI, cells_numI, numI_fold]; rfl) rfl (by simp only [List.length_append, List.length_cons, List.length_nil, hfs23]; omega) (by kernel_rfl) (by intro k f hk hex; simp only [List.not_mem_nil] at hex) ?_
    try simp only []
    refine hK22 _ ?_
    refine AWP.ret ?_
    exact hK _ _ _ _ trivial ((Fin.mk (by simp [aRes, aResL, aRes1, idf_Wd', idf_numI, cells_numI, numI_fold]; rfl)).cast (by rw [e.1, e.2]))

set_option maxHeartbeats 2000000 in
theorem lowest_fc {j : Nat} (u d : Int) (hd : d ≠ 0) (bu : Bg j u) (bd : Bg j d) (hj : j ≤ 16777216) : FC Try.prog 108 [rtA u d] (rtA (lowU u d) (lowD u d)) := by
  have hg2 : FC Try.prog 64 [.isl [numC u, numC d]] (numI (gg u d)) := by
    have h := gcd_fc (j := j) [u, d] (by intro z hz; simp only [List.mem_cons, List.not_mem_nil, or_false] at hz; rcases hz with rfl | rfl <;> assumption) (by omega) (by simp)
    rw [gcdL_two] at h; exact h
  have bg := gg_bg bu bd
  have hgp := gg_pos (u := u) hd
  have hdn := dq_neg (u := u) hd
  have bU : Bg j (u / gg u d) := bu.div hgp
  have bD : Bg j (d / gg u d) := bd.div hgp
  have lp := low_pos (u := u) (d := d)
  have ln' := low_neg (u := u) (d := d)
  generalize gg u d = g at *
  refine FC.body Try.func108 rfl (by simp [idfL, idf, idfLL_iff, idf_Wd', idf_numI, cells_numI, numI_fold, rtA, rtC, numC]) (by simp [idfL, idf, idf_Wd', rtA, rtC]) 37 rfl fun nx K hK => ?_
  refine AWP.seqk fun K1 hK1 => ?_
  refine AWP.region (AOPS.all (by simp (disch := first|omega|(simp only[ln];omega)) [idf_Wd', idf_numI, cells_numI, numI_fold, rtA, rtC, numC]; rfl) ?_)
  refine hK1 _ ?_
  refine AWP.seqk fun K2 hK2 => ?_
  refine AWP.region ?_
  refine AOPS.runk 5 (by simp (disch := first|omega|(simp only[ln];omega)) [List.take_succ_cons, List.take_zero, idf_Wd', idf_numI, cells_numI, numI_fold, rtA, rtC, numC]; rfl) ?_
  simp only [List.drop_succ_cons, List.drop_zero]
  refine AOPS.frz1 12 (nx + 1 + 1) 2 [numC u, numC d] (.isl [numC u, numC d]) (by simp [numC]) (by simp [fz, numC]) ?_
  refine AOPS.fcall (hg2) rfl rfl rfl hb64 (by simp (disch := first|omega|(simp only[ln];omega)) [idf_Wd', idf_numI, cells_numI, numI_fold, rtA, rtC, numC]) (by simp (disch := first|omega|(simp only[ln];omega))) (by simp) ?_
  simp only [puts_some, updo]
  refine AOPS.all (by simp (disch := first|omega|(simp only[ln];omega)) [idf_Wd', idf_numI, cells_numI, numI_fold, rtA, rtC, numC]; rfl) ?_
  refine hK2 _ ?_
  refine AWP.seqk fun K3 hK3 => ?_
  refine AWP.region ?_
  refine AOPS.runk 3 (by simp (disch := first|omega|(simp only[ln];omega)) [List.take_succ_cons, List.take_zero, idf_Wd', idf_numI, cells_numI, numI_fold, rtA, rtC, numC]; rfl) ?_
  simp only [List.drop_succ_cons, List.drop_zero]
  refine AOPS.fcall (over_fc u g (by omega) bu bg hj) rfl rfl rfl hb69 (by simp (disch := first|omega|(simp only[ln];omega)) [idf_Wd', idf_numI, cells_numI, numI_fold, rtA, rtC, numC]) (by simp (disch := first|omega|(simp only[ln];omega))) (by simp) ?_
  simp only [puts_some, updo]
  refine AOPS.all (by simp (disch := first|omega|(simp only[ln];omega)) [idf_Wd', idf_numI, cells_numI, numI_fold, rtA, rtC, numC]; rfl) ?_
  refine hK3 _ ?_
  refine AWP.seqk fun K4 hK4 => ?_
  refine AWP.region ?_
  refine AOPS.runk 3 (by simp (disch := first|omega|(simp only[ln];omega)) [List.take_succ_cons, List.take_zero, idf_Wd', idf_numI, cells_numI, numI_fold, rtA, rtC, numC]; rfl) ?_
  simp only [List.drop_succ_cons, List.drop_zero]
  refine AOPS.fcall (over_fc d g (by omega) bd bg hj) rfl rfl rfl hb69 (by simp (disch := first|omega|(simp only[ln];omega)) [idf_Wd', idf_numI, cells_numI, numI_fold, rtA, rtC, numC]) (by simp (disch := first|omega|(simp only[ln];omega))) (by simp) ?_
  simp only [puts_some, updo]
  refine AOPS.all (by simp (disch := first|omega|(simp only[ln];omega)) [idf_Wd', idf_numI, cells_numI, numI_fold, rtA, rtC, numC]; rfl) ?_
  refine hK4 _ ?_
  refine AWP.seqk fun K5 hK5 => ?_
  refine AWP.seqk fun K6 hK6 => ?_
  refine AWP.region (AOPS.all (by simp (disch := first|omega|(simp only[ln];omega)) [idf_Wd', idf_numI, cells_numI, numI_fold, rtA, rtC, numC]; rfl) ?_)
  refine hK6 _ ?_
  refine cond_ok (decide (d / g < 0)) (by simp (disch := first|omega|(simp only[ln];omega))) (fun h29 => ?_) (fun h29 => ?_)
  · try simp only [decide_eq_true_eq, decide_eq_false_iff_not] at h29
    have e := ln' (hdn.1 h29)
    refine AWP.old fun hold => ?_
    refine AWP.draw 4 Try.checked.mixed (by kernel_rfl) (by simp) ?_
    simp only [List.take_succ_cons, List.take_zero, List.drop_succ_cons, List.drop_zero]
    refine DP.runFk 1 (by simp (disch := first|omega|(simp only[ln];omega)) [runDf.eq_def, runF1, runF2, stepF.eq_def, updo.eq_def, hupo.eq_def, opSto1.eq_def, List.take_succ_cons, List.take_zero, idf_Wd', idf_numI, cells_numI, numI_fold, rtA, rtC, numC]; rfl) fun fs7 hfs7 => ?_
    replace hfs7 : fs7.length = 1 := hfs7.trans rfl
    simp only [List.drop_succ_cons, List.drop_zero]
    refine DP.fcall (minus_fc bU (by omega)) rfl rfl rfl hb60 (by simp (disch := first|omega|(simp only[ln];omega)) [idf_Wd', idf_numI, cells_numI, numI_fold, rtA, rtC, numC]) (by simp (disch := first|omega|(simp only[ln];omega))) (by simp) ?_
    simp only [updo]
    refine DP.runF1q (by simp (disch := first|omega|(simp only[ln];omega)) [runDf.eq_def, runF1, runF2, stepF.eq_def, updo.eq_def, hupo.eq_def, opSto1.eq_def, idf_Wd', idf_numI, cells_numI, numI_fold, rtA, rtC, numC]; rfl) fun fq8 hfq8 => ?_
    simp [qids, Op.operands, topId] at hfq8
    simp only [updo]
    refine DP.fcall (minus_fc bD (by omega)) rfl rfl rfl hb60 (by simp (disch := first|omega|(simp only[ln];omega)) [idf_Wd', idf_numI, cells_numI, numI_fold, rtA, rtC, numC]) (by simp (disch := first|omega|(simp only[ln];omega))) (by simp) ?_
    simp only [updo]
    refine DQ.sto1 (m := 4) [2] _ (by simp (disch := first|omega|(simp only[ln];omega)) [runDf.eq_def, runF1, runF2, stepF.eq_def, updo.eq_def, hupo.eq_def, opSto1.eq_def, idf_Wd', idf_numI, cells_numI, numI_fold, rtA, rtC, numC]; rfl) rfl (by simp only [List.length_append, List.length_cons, List.length_nil, hfs7]; omega) (by kernel_rfl) (by intro k f hk hex; simp only [List.mem_cons, List.not_mem_nil, or_false] at hex; rcases hex with rfl <;> (simp [List.getElem?_append, hfs7] at hk; subst hk; refine ⟨?_, by first | omega | (simp; done) | (simp; omega)⟩; simp [qids, Op.operands, Call.operands, topId, numS, numI, Wd, hfq8]; try omega)) ?_
    try simp only []
    refine DQ.sto1 (m := 4) [] _ (by simp (disch := first|omega|(simp only[ln];omega)) [runDf.eq_def, runF1, runF2, stepF.eq_def, updo.eq_def, hupo.eq_def, opSto1.eq_def, idf_Wd', idf_numI, cells_numI, numI_fold, rtA, rtC, numC]; rfl) rfl (by simp only [List.length_append, List.length_cons, List.length_nil, hfs7]; omega) (by kernel_rfl) (by intro k f hk hex; simp only [List.not_mem_nil] at hex) ?_
    try simp only []
    refine hK5 _ ?_
    refine AWP.seqk fun K9 hK9 => ?_
    refine AWP.region (AOPS.all (by simp (disch := first|omega|(simp only[ln];omega)) [idf_Wd', idf_numI, cells_numI, numI_fold, rtA, rtC, numC]; rfl) ?_)
    refine hK9 _ ?_
    refine AWP.ret ?_
    exact hK _ _ _ _ trivial ((Fin.mk (by simp [aRes, aResL, aRes1, idf_Wd', idf_numI, cells_numI, numI_fold, rtA, rtC, numC]; rfl)).cast (by rw [e.1, e.2]; simp [rtA, rtC]))
  · try simp only [decide_eq_true_eq, decide_eq_false_iff_not] at h29
    have e := lp (fun h => h29 (hdn.2 h))
    refine AWP.skip ?_
    refine hK5 _ ?_
    refine AWP.seqk fun K10 hK10 => ?_
    refine AWP.region (AOPS.all (by simp (disch := first|omega|(simp only[ln];omega)) [idf_Wd', idf_numI, cells_numI, numI_fold, rtA, rtC, numC]; rfl) ?_)
    refine hK10 _ ?_
    refine AWP.ret ?_
    exact hK _ _ _ _ trivial ((Fin.mk (by simp [aRes, aResL, aRes1, idf_Wd', idf_numI, cells_numI, numI_fold, rtA, rtC, numC]; rfl)).cast (by rw [e.1, e.2]; rfl))

set_option maxHeartbeats 2000000 in
theorem told_fc {j : Nat} (u d : Int) (bu : Bg j u) (bd : Bg j d) (hj : j ≤ 16777216) : FC Try.prog 54 [rtA u d] (.tup [.agg [.int .u64 ((told u d).1).up.a, .int .u64 ((told u d).1).up.b, .int .u64 ((told u d).1).up.c, .int .u64 ((told u d).1).up.d, .int .u64 ((told u d).1).down.a, .int .u64 ((told u d).1).down.b, .int .u64 ((told u d).1).down.c, .int .u64 ((told u d).1).down.d], .bool (told u d).2]) := by
  obtain ⟨cs, hsf, hse⟩ : ∃ c : Int, FC Try.prog 63 [numI d] (.int .i64 c) ∧ (c == 0) = decide (d = 0) := ⟨_, sign_fc d, by
    by_cases h : d = 0
    · subst h; rfl
    · have : (if d < 0 then (-1 : Int) else if d > 0 then 1 else 0) ≠ 0 := by split <;> (try split) <;> omega
      rw [beq_eq_false_iff_ne.2 this]; simp [h]⟩
  refine FC.body Try.func54 rfl (by simp [idfL, idf, idfLL_iff, idf_Wd', idf_numI, cells_numI, numI_fold, rtA, rtC]) (by simp [idfL, idf, idfLL_iff, idf_Wd', idf_numI, cells_numI, numI_fold, rtA, rtC]) 37 rfl fun nx K hK => ?_
  refine AWP.seqk fun K1 hK1 => ?_
  refine AWP.region (AOPS.all (by simp (disch := first|omega|(simp only[ln];omega)) [idf_Wd', idf_numI, cells_numI, numI_fold, rtA, rtC]; rfl) ?_)
  refine hK1 _ ?_
  refine AWP.seqk fun K2 hK2 => ?_
  refine AWP.seqk fun K3 hK3 => ?_
  refine AWP.region ?_
  refine AOPS.runk 2 (by simp (disch := first|omega|(simp only[ln];omega)) [List.take_succ_cons, List.take_zero, idf_Wd', idf_numI, cells_numI, numI_fold, rtA, rtC]; rfl) ?_
  simp only [List.drop_succ_cons, List.drop_zero]
  refine AOPS.fcall (hsf) rfl rfl rfl hb63 (by simp (disch := first|omega|(simp only[ln];omega)) [idf_Wd', idf_numI, cells_numI, numI_fold, rtA, rtC]) (by simp (disch := first|omega|(simp only[ln];omega))) (by simp) ?_
  simp only [puts_some, updo]
  refine AOPS.all (by simp (disch := first|omega|(simp only[ln];omega)) [idf_Wd', idf_numI, cells_numI, numI_fold, rtA, rtC]; rfl) ?_
  refine hK3 _ ?_
  refine cond_ok (decide (d = 0)) (by simp (disch := first|omega|(simp only[ln];omega)) [hse]) (fun h11 => ?_) (fun h11 => ?_)
  · try simp only [decide_eq_true_eq, decide_eq_false_iff_not] at h11
    refine AWP.seqk fun K4 hK4 => ?_
    refine AWP.region (AOPS.all (by simp (disch := first|omega|(simp only[ln];omega)) [idf_Wd', idf_numI, cells_numI, numI_fold, rtA, rtC]; rfl) ?_)
    refine hK4 _ ?_
    refine AWP.ret ?_
    exact hK _ _ _ _ trivial ((Fin.mk (by simp [aRes, aResL, aRes1, idf_Wd', idf_numI, cells_numI, numI_fold, rtA, rtC]; rfl)).cast (by rw [h11, told_zero]; rfl))
  · try simp only [decide_eq_true_eq, decide_eq_false_iff_not] at h11
    have hd : d ≠ 0 := h11
    have w1 := wide_fc (lowU_bg (u := u) hd bu) (by omega)
    have w2 := wide_fc (lowD_bg (u := u) hd bd) (by omega)
    rw [wdT_l] at w1 w2
    unfold W4.l at w1 w2
    have ht := told_fit (u := u) hd
    refine AWP.skip ?_
    refine hK2 _ ?_
    refine AWP.seqk fun K5 hK5 => ?_
    refine AWP.region ?_
    refine AOPS.runk 1 (by simp (disch := first|omega|(simp only[ln];omega)) [List.take_succ_cons, List.take_zero, idf_Wd', idf_numI, cells_numI, numI_fold, rtA, rtC]; rfl) ?_
    simp only [List.drop_succ_cons, List.drop_zero]
    refine AOPS.fcall (lowest_fc u d hd bu bd hj) rfl rfl rfl hb108 (by simp (disch := first|omega|(simp only[ln];omega)) [idf_Wd', idf_numI, cells_numI, numI_fold, rtA, rtC]) (by simp (disch := first|omega|(simp only[ln];omega))) (by simp) ?_
    simp only [puts_some, updo]
    refine AOPS.all (by simp (disch := first|omega|(simp only[ln];omega)) [idf_Wd', idf_numI, cells_numI, numI_fold, rtA, rtC]; rfl) ?_
    refine hK5 _ ?_
    refine AWP.seqk fun K6 hK6 => ?_
    refine AWP.region ?_
    refine AOPS.runk 2 (by simp (disch := first|omega|(simp only[ln];omega)) [List.take_succ_cons, List.take_zero, idf_Wd', idf_numI, cells_numI, numI_fold, rtA, rtC]; rfl) ?_
    simp only [List.drop_succ_cons, List.drop_zero]
    refine AOPS.fcall (w1) rfl rfl rfl hb61 (by simp (disch := first|omega|(simp only[ln];omega)) [idf_Wd', idf_numI, cells_numI, numI_fold, rtA, rtC]) (by simp (disch := first|omega|(simp only[ln];omega))) (by simp) ?_
    simp only [puts_some, updo]
    refine AOPS.all (by simp (disch := first|omega|(simp only[ln];omega)) [idf_Wd', idf_numI, cells_numI, numI_fold, rtA, rtC]; rfl) ?_
    refine hK6 _ ?_
    refine AWP.seqk fun K7 hK7 => ?_
    refine AWP.region ?_
    refine AOPS.runk 2 (by simp (disch := first|omega|(simp only[ln];omega)) [List.take_succ_cons, List.take_zero, idf_Wd', idf_numI, cells_numI, numI_fold, rtA, rtC]; rfl) ?_
    simp only [List.drop_succ_cons, List.drop_zero]
    refine AOPS.fcall (w2) rfl rfl rfl hb61 (by simp (disch := first|omega|(simp only[ln];omega)) [idf_Wd', idf_numI, cells_numI, numI_fold, rtA, rtC]) (by simp (disch := first|omega|(simp only[ln];omega))) (by simp) ?_
    simp only [puts_some, updo]
    refine AOPS.all (by simp (disch := first|omega|(simp only[ln];omega)) [idf_Wd', idf_numI, cells_numI, numI_fold, rtA, rtC]; rfl) ?_
    refine hK7 _ ?_
    refine AWP.seqk fun K8 hK8 => ?_
    refine AWP.seqk fun K9 hK9 => ?_
    cases hf : fits (lowU u d)
    · refine AWP.region (AOPS.all (by simp (disch := first|omega|(simp only[ln];omega)) [idf_Wd', idf_numI, cells_numI, numI_fold, rtA, rtC, hf]; rfl) ?_)
      refine hK9 _ ?_
      refine cond_ok _ (by simp (disch := first|omega|(simp only[ln];omega)); rfl) (fun h32 => ?_) (fun h32 => ?_)
      · try simp only [decide_eq_true_eq, decide_eq_false_iff_not] at h32
        refine AWP.seqk fun K10 hK10 => ?_
        refine AWP.region (AOPS.all (by simp (disch := first|omega|(simp only[ln];omega)) [idf_Wd', idf_numI, cells_numI, numI_fold, rtA, rtC]; rfl) ?_)
        refine hK10 _ ?_
        refine AWP.ret ?_
        exact hK _ _ _ _ trivial ((Fin.mk (by simp [aRes, aResL, aRes1, idf_Wd', idf_numI, cells_numI, numI_fold, rtA, rtC]; rfl)).cast (by rw [ht, hf]; rfl))
      · simp at h32
    · refine AWP.region (AOPS.all (by simp (disch := first|omega|(simp only[ln];omega)) [idf_Wd', idf_numI, cells_numI, numI_fold, rtA, rtC, hf]; rfl) ?_)
      refine hK9 _ ?_
      refine cond_ok (!fits (lowD u d)) (by simp (disch := first|omega|(simp only[ln];omega))) (fun h32 => ?_) (fun h32 => ?_)
      · try simp only [decide_eq_true_eq, decide_eq_false_iff_not] at h32
        have hf2 : fits (lowD u d) = false := by simpa using h32
        refine AWP.seqk fun K11 hK11 => ?_
        refine AWP.region (AOPS.all (by simp (disch := first|omega|(simp only[ln];omega)) [idf_Wd', idf_numI, cells_numI, numI_fold, rtA, rtC]; rfl) ?_)
        refine hK11 _ ?_
        refine AWP.ret ?_
        exact hK _ _ _ _ trivial ((Fin.mk (by simp [aRes, aResL, aRes1, idf_Wd', idf_numI, cells_numI, numI_fold, rtA, rtC]; rfl)).cast (by rw [ht, hf, hf2]; rfl))
      · try simp only [decide_eq_true_eq, decide_eq_false_iff_not] at h32
        have hf2 : fits (lowD u d) = true := by simpa using h32
        refine AWP.skip ?_
        refine hK8 _ ?_
        refine AWP.seqk fun K12 hK12 => ?_
        refine AWP.region (AOPS.all (by simp (disch := first|omega|(simp only[ln];omega)) [idf_Wd', idf_numI, cells_numI, numI_fold, rtA, rtC]; rfl) ?_)
        refine hK12 _ ?_
        refine AWP.ret ?_
        exact hK _ _ _ _ trivial ((Fin.mk (by simp [aRes, aResL, aRes1, idf_Wd', idf_numI, cells_numI, numI_fold, rtA, rtC]; rfl)).cast (by rw [ht, hf, hf2]; rfl))

set_option maxHeartbeats 2000000 in
theorem rplus_fc {j : Nat} (a b c d : Int) (ba : Bg j a) (bb : Bg j b) (bc : Bg j c) (bd : Bg j d) (hj : j ≤ 16777216) : FC Try.prog 53 [rtA a b, rtA c d] (rtA (a * d + c * b) (b * d)) := by
  refine FC.body Try.func53 rfl (by simp [idfL, idf, idfLL_iff, idf_Wd', idf_numI, cells_numI, numI_fold, rtA, rtC]) (by simp [idfL, idf, idf_Wd', rtA, rtC]) 22 rfl fun nx K hK => ?_
  refine AWP.seqk fun K1 hK1 => ?_
  refine AWP.region (AOPS.all (by simp (disch := first|omega|(simp only[ln];omega)) [idf_Wd', idf_numI, cells_numI, numI_fold, rtA, rtC]; rfl) ?_)
  refine hK1 _ ?_
  refine AWP.seqk fun K2 hK2 => ?_
  refine AWP.draw 17 Try.checked.mixed (by kernel_rfl) (by simp) ?_
  simp only [List.take_succ_cons, List.take_zero, List.drop_succ_cons, List.drop_zero]
  refine DP.runFk 4 (by simp (disch := first|omega|(simp only[ln];omega)) [runDf.eq_def, runF1, runF2, stepF.eq_def, updo.eq_def, hupo.eq_def, opSto1.eq_def, List.take_succ_cons, List.take_zero, idf_Wd', idf_numI, cells_numI, numI_fold, rtA, rtC]; rfl) fun fs3 hfs3 => ?_
  replace hfs3 : fs3.length = 4 := hfs3.trans rfl
  simp only [List.drop_succ_cons, List.drop_zero]
  refine DP.fcall (by_fc ba bd (by omega) (by omega)) rfl rfl rfl hb62 (by simp (disch := first|omega|(simp only[ln];omega)) [idf_Wd', idf_numI, cells_numI, numI_fold, rtA, rtC]) (by simp (disch := first|omega|(simp only[ln];omega))) (by simp) ?_
  simp only [updo]
  refine DP.runFk 4 (by simp (disch := first|omega|(simp only[ln];omega)) [runDf.eq_def, runF1, runF2, stepF.eq_def, updo.eq_def, hupo.eq_def, opSto1.eq_def, List.take_succ_cons, List.take_zero, idf_Wd', idf_numI, cells_numI, numI_fold, rtA, rtC]; rfl) fun fs4 hfs4 => ?_
  replace hfs4 : fs4.length = 4 := hfs4.trans rfl
  simp only [List.drop_succ_cons, List.drop_zero]
  refine DP.fcall (by_fc bc bb (by omega) (by omega)) rfl rfl rfl hb62 (by simp (disch := first|omega|(simp only[ln];omega)) [idf_Wd', idf_numI, cells_numI, numI_fold, rtA, rtC]) (by simp (disch := first|omega|(simp only[ln];omega))) (by simp) ?_
  simp only [updo]
  refine DP.fcall (plus_fc (ba.mul bd) (bc.mul bb) (by omega) (by omega)) rfl rfl rfl hb70 (by simp (disch := first|omega|(simp only[ln];omega)) [idf_Wd', idf_numI, cells_numI, numI_fold, rtA, rtC]) (by simp (disch := first|omega|(simp only[ln];omega))) (by simp) ?_
  simp only [updo]
  refine DP.runFk 4 (by simp (disch := first|omega|(simp only[ln];omega)) [runDf.eq_def, runF1, runF2, stepF.eq_def, updo.eq_def, hupo.eq_def, opSto1.eq_def, List.take_succ_cons, List.take_zero, idf_Wd', idf_numI, cells_numI, numI_fold, rtA, rtC]; rfl) fun fs5 hfs5 => ?_
  replace hfs5 : fs5.length = 4 := hfs5.trans rfl
  simp only [List.drop_succ_cons, List.drop_zero]
  refine DP.fcall (by_fc bb bd (by omega) (by omega)) rfl rfl rfl hb62 (by simp (disch := first|omega|(simp only[ln];omega)) [idf_Wd', idf_numI, cells_numI, numI_fold, rtA, rtC]) (by simp (disch := first|omega|(simp only[ln];omega))) (by simp) ?_
  simp only [updo]
  refine DP.runFk 1 (by simp (disch := first|omega|(simp only[ln];omega)) [runDf.eq_def, runF1, runF2, stepF.eq_def, updo.eq_def, hupo.eq_def, opSto1.eq_def, List.take_succ_cons, List.take_zero, idf_Wd', idf_numI, cells_numI, numI_fold, rtA, rtC]; rfl) fun fs6 hfs6 => ?_
  replace hfs6 : fs6.length = 1 := hfs6.trans rfl
  simp only [List.drop_succ_cons, List.drop_zero]
  refine DQ.runF (m := 17) (by simp only [List.length_append, List.length_cons, List.length_nil, hfs3, hfs4, hfs5, hfs6]; omega) _ _ _ (by kernel_rfl) rfl (by simp (disch := first|omega|(simp only[ln];omega)) [runDf.eq_def, runF1, runF2, stepF.eq_def, updo.eq_def, hupo.eq_def, opSto1.eq_def, idf_Wd', idf_numI, cells_numI, numI_fold, rtA, rtC]; rfl) ?_
  refine hK2 _ ?_
  refine AWP.ret ?_
  exact hK _ _ _ _ trivial ((Fin.mk (by simp [aRes, aResL, aRes1, idf_Wd', idf_numI, cells_numI, numI_fold, rtA, rtC]; rfl)).cast (by rfl))

set_option maxHeartbeats 2000000 in
theorem rcmp_fc {j : Nat} (a b c d : Int) (ba : Bg j a) (bb : Bg j b) (bc : Bg j c) (bd : Bg j d) (hj : j ≤ 16777216) : FC Try.prog 67 [rtA a b, rtA c d] (.int .i64 (cm (a * d) (c * b))) := by
  have hc : FC Try.prog 65 [numI (a * d), numI (c * b)] (.int .i64 (cm (a * d) (c * b))) := cmp_fc (ba.mul bd) (bc.mul bb) (by omega) (by omega)
  refine FC.body Try.func67 rfl (by simp [idfL, idf, idfLL_iff, idf_Wd', idf_numI, cells_numI, numI_fold, rtA, rtC]) (by simp [idfL, idf, idfLL_iff, idf_Wd', idf_numI, cells_numI, numI_fold, rtA, rtC]) 16 rfl fun nx K hK => ?_
  refine AWP.seqk fun K1 hK1 => ?_
  refine AWP.region (AOPS.all (by simp (disch := first|omega|(simp only[ln];omega)) [idf_Wd', idf_numI, cells_numI, numI_fold, rtA, rtC]; rfl) ?_)
  refine hK1 _ ?_
  refine AWP.seqk fun K2 hK2 => ?_
  refine AWP.draw 11 Try.checked.mixed (by kernel_rfl) (by simp) ?_
  simp only [List.take_succ_cons, List.take_zero, List.drop_succ_cons, List.drop_zero]
  refine DP.runFk 4 (by simp (disch := first|omega|(simp only[ln];omega)) [runDf.eq_def, runF1, runF2, stepF.eq_def, updo.eq_def, hupo.eq_def, opSto1.eq_def, List.take_succ_cons, List.take_zero, idf_Wd', idf_numI, cells_numI, numI_fold, rtA, rtC]; rfl) fun fs3 hfs3 => ?_
  replace hfs3 : fs3.length = 4 := hfs3.trans rfl
  simp only [List.drop_succ_cons, List.drop_zero]
  refine DP.fcall (by_fc ba bd (by omega) (by omega)) rfl rfl rfl hb62 (by simp (disch := first|omega|(simp only[ln];omega)) [idf_Wd', idf_numI, cells_numI, numI_fold, rtA, rtC]) (by simp (disch := first|omega|(simp only[ln];omega))) (by simp) ?_
  simp only [updo]
  refine DP.runFk 4 (by simp (disch := first|omega|(simp only[ln];omega)) [runDf.eq_def, runF1, runF2, stepF.eq_def, updo.eq_def, hupo.eq_def, opSto1.eq_def, List.take_succ_cons, List.take_zero, idf_Wd', idf_numI, cells_numI, numI_fold, rtA, rtC]; rfl) fun fs4 hfs4 => ?_
  replace hfs4 : fs4.length = 4 := hfs4.trans rfl
  simp only [List.drop_succ_cons, List.drop_zero]
  refine DP.fcall (by_fc bc bb (by omega) (by omega)) rfl rfl rfl hb62 (by simp (disch := first|omega|(simp only[ln];omega)) [idf_Wd', idf_numI, cells_numI, numI_fold, rtA, rtC]) (by simp (disch := first|omega|(simp only[ln];omega))) (by simp) ?_
  simp only [updo]
  refine DP.fcall (hc) rfl rfl rfl hb65 (by simp (disch := first|omega|(simp only[ln];omega)) [idf_Wd', idf_numI, cells_numI, numI_fold, rtA, rtC]) (by simp (disch := first|omega|(simp only[ln];omega))) (by simp) ?_
  simp only [updo]
  refine DQ.runF (m := 11) (by simp only [List.length_append, List.length_cons, List.length_nil, hfs3, hfs4]; omega) _ _ _ (by kernel_rfl) rfl (by simp (disch := first|omega|(simp only[ln];omega)) [runDf.eq_def, runF1, runF2, stepF.eq_def, updo.eq_def, hupo.eq_def, opSto1.eq_def, idf_Wd', idf_numI, cells_numI, numI_fold, rtA, rtC]; rfl) ?_
  refine hK2 _ ?_
  refine AWP.ret ?_
  exact hK _ _ _ _ trivial (Fin.mk (by simp (disch := first|omega|(simp only[ln];omega)) [aRes, aResL, aRes1, idf_Wd', idf_numI, cells_numI, numI_fold, rtA, rtC]))

set_option maxHeartbeats 1000000 in
theorem ratio_fc (a : Rt) (ha : a.ok) : FC Try.prog 52 [a.av] (rtA a.up.v a.down.v) := by
  
  refine FC.body Try.func52 rfl (by simp [idfL, idf, idfLL_iff, idf_Wd', idf_numI, cells_numI, numI_fold, Rt.av, Rt.cells, wdI]) (by simp [idfL, idf, idf_Wd', rtA, rtC]) 10 rfl fun nx K hK => ?_
  refine AWP.seqk fun K1 hK1 => ?_
  refine AWP.region (AOPS.all (by simp (disch := first|omega|(simp only[ln];omega)) [idf_Wd', idf_numI, cells_numI, numI_fold, Rt.av, Rt.cells, wdI]; rfl) ?_)
  refine hK1 _ ?_
  refine AWP.seqk fun K2 hK2 => ?_
  refine AWP.draw 7 Try.checked.mixed (by kernel_rfl) (by simp) ?_
  simp only [List.take_succ_cons, List.take_zero, List.drop_succ_cons, List.drop_zero]
  refine DP.runFk 2 (by simp (disch := first|omega|(simp only[ln];omega)) [runDf.eq_def, runF1, runF2, stepF.eq_def, updo.eq_def, hupo.eq_def, opSto1.eq_def, List.take_succ_cons, List.take_zero, idf_Wd', idf_numI, cells_numI, numI_fold, Rt.av, Rt.cells, wdI]; rfl) fun fs3 hfs3 => ?_
  replace hfs3 : fs3.length = 2 := hfs3.trans rfl
  simp only [List.drop_succ_cons, List.drop_zero]
  refine DP.fcall (wideNum_fc a.up.a a.up.b a.up.c a.up.d ha.1.1 ha.1.2.1 ha.1.2.2.1 ha.1.2.2.2) rfl rfl rfl hb59 (by simp (disch := first|omega|(simp only[ln];omega)) [idf_Wd', idf_numI, cells_numI, numI_fold, Rt.av, Rt.cells, wdI]) (by simp (disch := first|omega|(simp only[ln];omega))) (by simp) ?_
  simp only [updo]
  refine DP.runFk 2 (by simp (disch := first|omega|(simp only[ln];omega)) [runDf.eq_def, runF1, runF2, stepF.eq_def, updo.eq_def, hupo.eq_def, opSto1.eq_def, List.take_succ_cons, List.take_zero, idf_Wd', idf_numI, cells_numI, numI_fold, Rt.av, Rt.cells, wdI]; rfl) fun fs4 hfs4 => ?_
  replace hfs4 : fs4.length = 2 := hfs4.trans rfl
  simp only [List.drop_succ_cons, List.drop_zero]
  refine DP.fcall (wideNum_fc a.down.a a.down.b a.down.c a.down.d ha.2.1 ha.2.2.1 ha.2.2.2.1 ha.2.2.2.2) rfl rfl rfl hb59 (by simp (disch := first|omega|(simp only[ln];omega)) [idf_Wd', idf_numI, cells_numI, numI_fold, Rt.av, Rt.cells, wdI]) (by simp (disch := first|omega|(simp only[ln];omega))) (by simp) ?_
  simp only [updo]
  refine DP.runFk 1 (by simp (disch := first|omega|(simp only[ln];omega)) [runDf.eq_def, runF1, runF2, stepF.eq_def, updo.eq_def, hupo.eq_def, opSto1.eq_def, List.take_succ_cons, List.take_zero, idf_Wd', idf_numI, cells_numI, numI_fold, Rt.av, Rt.cells, wdI]; rfl) fun fs5 hfs5 => ?_
  replace hfs5 : fs5.length = 1 := hfs5.trans rfl
  simp only [List.drop_succ_cons, List.drop_zero]
  refine DQ.runF (m := 7) (by simp only [List.length_append, List.length_cons, List.length_nil, hfs3, hfs4, hfs5]; omega) _ _ _ (by kernel_rfl) rfl (by simp (disch := first|omega|(simp only[ln];omega)) [runDf.eq_def, runF1, runF2, stepF.eq_def, updo.eq_def, hupo.eq_def, opSto1.eq_def, idf_Wd', idf_numI, cells_numI, numI_fold, Rt.av, Rt.cells, wdI]; rfl) ?_
  refine hK2 _ ?_
  refine AWP.ret ?_
  exact hK _ _ _ _ trivial ((Fin.mk (by simp [aRes, aResL, aRes1, idf_Wd', idf_numI, cells_numI, numI_fold, Rt.av, Rt.cells, wdI]; rfl)).cast (by rfl))

set_option maxHeartbeats 2000000 in
theorem ratioOkI_fc (a : Rt) (ha : a.ok) : FC Try.prog 25 [a.av] (.bool a.good) := by
  have hra := ratio_fc a ha
  have bU := W4.bg ha.1
  have bD := W4.bg ha.2
  have hgd : a.good = (decide (0 < a.down.v) && decide (gg a.up.v a.down.v = 1)) := by unfold Rt.good gg; congr 1; apply Bool.eq_iff_iff.2; simp; omega
  generalize a.up.v = u at *
  generalize a.down.v = d at *
  have hs1 : 0 < d → FC Try.prog 63 [numI d] (.int .i64 1) := fun h => by
    have h1 := sign_fc d
    rw [if_neg (by omega), if_pos h] at h1; exact h1
  have hs0 : ¬ 0 < d → ∃ c : Int, FC Try.prog 63 [numI d] (.int .i64 c) ∧ c ≤ 0 := fun h => ⟨_, sign_fc d, by split <;> (try split) <;> omega⟩
  have bG := gg_bg bU bD
  obtain ⟨cc, hcf, hce⟩ : ∃ c : Int, FC Try.prog 65 [numI (gg u d), numI 1] (.int .i64 c) ∧ (c == 0) = decide (gg u d = 1) := ⟨_, cmp_fc bG (Bg.i64 (n := 1) (by omega) (by omega)) (by omega) (by omega), one_cmp _⟩
  have hg2 : FC Try.prog 64 [.isl [numC u, numC d]] (numI (gg u d)) := by
    have h := gcd_fc (j := 4) [u, d] (by intro z hz; simp only [List.mem_cons, List.not_mem_nil, or_false] at hz; rcases hz with rfl | rfl <;> assumption) (by omega) (by simp)
    rw [gcdL_two] at h; exact h
  refine FC.body Try.func25 rfl (by simp [idfL, idf, idfLL_iff, idf_Wd', idf_numI, cells_numI, numI_fold, Rt.av, Rt.cells, rtA, rtC, numC]) (by simp [idfL, idf, idfLL_iff, idf_Wd', idf_numI, cells_numI, numI_fold, Rt.av, Rt.cells, rtA, rtC, numC]) 21 rfl fun nx K hK => ?_
  refine AWP.seqk fun K1 hK1 => ?_
  refine AWP.region (AOPS.all (by simp (disch := first|omega|(simp only[ln];omega)) [idf_Wd', idf_numI, cells_numI, numI_fold, Rt.av, Rt.cells, rtA, rtC, numC]; rfl) ?_)
  refine hK1 _ ?_
  refine AWP.seqk fun K2 hK2 => ?_
  refine AWP.region ?_
  refine AOPS.runk 1 (by simp (disch := first|omega|(simp only[ln];omega)) [List.take_succ_cons, List.take_zero, idf_Wd', idf_numI, cells_numI, numI_fold, Rt.av, Rt.cells, rtA, rtC, numC]; rfl) ?_
  simp only [List.drop_succ_cons, List.drop_zero]
  refine AOPS.fcall (hra) rfl rfl rfl hb52 (by simp (disch := first|omega|(simp only[ln];omega)) [idf_Wd', idf_numI, cells_numI, numI_fold, Rt.av, Rt.cells, rtA, rtC, numC]) (by simp (disch := first|omega|(simp only[ln];omega))) (by simp) ?_
  simp only [puts_some, updo]
  refine AOPS.all (by simp (disch := first|omega|(simp only[ln];omega)) [idf_Wd', idf_numI, cells_numI, numI_fold, Rt.av, Rt.cells, rtA, rtC, numC]; rfl) ?_
  refine hK2 _ ?_
  refine AWP.seqk fun K3 hK3 => ?_
  by_cases hw : 0 < d
  · refine AWP.region ?_
    refine AOPS.runk 2 (by simp (disch := first|omega|(simp only[ln];omega)) [List.take_succ_cons, List.take_zero, idf_Wd', idf_numI, cells_numI, numI_fold, Rt.av, Rt.cells, rtA, rtC, numC]; rfl) ?_
    simp only [List.drop_succ_cons, List.drop_zero]
    refine AOPS.fcall (hs1 hw) rfl rfl rfl hb63 (by simp (disch := first|omega|(simp only[ln];omega)) [idf_Wd', idf_numI, cells_numI, numI_fold, Rt.av, Rt.cells, rtA, rtC, numC]) (by simp (disch := first|omega|(simp only[ln];omega))) (by simp) ?_
    simp only [puts_some, updo]
    refine AOPS.runk 7 (by simp (disch := first|omega|(simp only[ln];omega)) [List.take_succ_cons, List.take_zero, idf_Wd', idf_numI, cells_numI, numI_fold, Rt.av, Rt.cells, rtA, rtC, numC]; rfl) ?_
    simp only [List.drop_succ_cons, List.drop_zero]
    refine AOPS.frz1 15 (nx + 1 + 1) 2 [numC u, numC d] (.isl [numC u, numC d]) (by simp [numC]) (by simp [fz, numC]) ?_
    refine AOPS.fcall (hg2) rfl rfl rfl hb64 (by simp (disch := first|omega|(simp only[ln];omega)) [idf_Wd', idf_numI, cells_numI, numI_fold, Rt.av, Rt.cells, rtA, rtC, numC]) (by simp (disch := first|omega|(simp only[ln];omega))) (by simp) ?_
    simp only [puts_some, updo]
    refine AOPS.fcall (whole_fc 1 (by omega) (by omega)) rfl rfl rfl hb66 (by simp (disch := first|omega|(simp only[ln];omega)) [idf_Wd', idf_numI, cells_numI, numI_fold, Rt.av, Rt.cells, rtA, rtC, numC]) (by simp (disch := first|omega|(simp only[ln];omega))) (by simp) ?_
    simp only [puts_some, updo]
    refine AOPS.fcall (hcf) rfl rfl rfl hb65 (by simp (disch := first|omega|(simp only[ln];omega)) [idf_Wd', idf_numI, cells_numI, numI_fold, Rt.av, Rt.cells, rtA, rtC, numC]) (by simp (disch := first|omega|(simp only[ln];omega))) (by simp) ?_
    simp only [puts_some, updo]
    refine AOPS.all (by simp (disch := first|omega|(simp only[ln];omega)) [idf_Wd', idf_numI, cells_numI, numI_fold, Rt.av, Rt.cells, rtA, rtC, numC]; rfl) ?_
    refine hK3 _ ?_
    refine AWP.ret ?_
    exact hK _ _ _ _ trivial ((Fin.mk (by simp [aRes, aResL, aRes1, idf_Wd', idf_numI, cells_numI, numI_fold, Rt.av, Rt.cells, rtA, rtC, numC]; rfl)).cast (by rw [hgd]; simp [hw, hce]))
  · obtain ⟨c0, hc0, hc1⟩ := hs0 hw
    have c1 : decide (0 < c0) = false := by simp; omega
    refine AWP.region ?_
    refine AOPS.runk 2 (by simp (disch := first|omega|(simp only[ln];omega)) [List.take_succ_cons, List.take_zero, idf_Wd', idf_numI, cells_numI, numI_fold, Rt.av, Rt.cells, rtA, rtC, numC, c1]; rfl) ?_
    simp only [List.drop_succ_cons, List.drop_zero]
    refine AOPS.fcall (hc0) rfl rfl rfl hb63 (by simp (disch := first|omega|(simp only[ln];omega)) [idf_Wd', c1, idf_numI, cells_numI, numI_fold, Rt.av, Rt.cells, rtA, rtC, numC]) (by simp (disch := first|omega|(simp only[ln];omega)) [c1]) (by simp) ?_
    simp only [puts_some, updo]
    refine AOPS.all (by simp (disch := first|omega|(simp only[ln];omega)) [idf_Wd', idf_numI, cells_numI, numI_fold, Rt.av, Rt.cells, rtA, rtC, numC, c1]; rfl) ?_
    refine hK3 _ ?_
    refine AWP.ret ?_
    exact hK _ _ _ _ trivial ((Fin.mk (by simp [aRes, aResL, aRes1, idf_Wd', idf_numI, cells_numI, numI_fold, Rt.av, Rt.cells, rtA, rtC, numC]; rfl)).cast (by rw [hgd]; simp [hw]))

end Go.Proofs.Ytdcggmbnjonemaa
