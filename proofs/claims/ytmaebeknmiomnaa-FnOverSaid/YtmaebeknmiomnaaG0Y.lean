/- Walks: the quotient of 128 bits by 64. -/
import Derived.Test.YtmaebeknmiomnaaG0X

namespace Go.Proofs.Ytmaebeknmiomnaa
open Go Go.RowKit
set_option linter.unusedSimpArgs false
set_option linter.unusedVariables false
set_option maxRecDepth 100000
attribute [local simp] List.getElem?_cons_zero List.getElem?_cons_succ List.getElem?_toArray runOps stepOp.eq_def agd.eq_def dstOk.eq_def opVal.eq_def opNew.eq_def opSto.eq_def ev.eq_def cv.eq_def puts_some puts_none upd_ap lst.eq_def aBin.eq_def aUn.eq_def aBi_str aBi_isl aBi_osl aBi_nsl aBi_max aBi_min aBi_max3 aConv.eq_def aLd.eq_def aLoad.eq_def aField.eq_def aFld.eq_def aIdx_isl aIdx_osl aSlc_isl aSlc_osl aSlc_str aSlc_nsl bnd.eq_def evs_nil evs_cons aBuild.eq_def aFill splice.eq_def cells_agg cells_int cells_bool cells_str cells_nil cells_nsl cells_isl cells_osl cells_ptr cells_ip cells_fn cells_Wd one_int one_bool one_str one_nil one_nsl one_isl one_osl one_ptr one_ip one_fn one_Wd aSets hupd_eq hupd_ne wrap_i64s wrap_u64s wrap_u32s wrap_u8s wd_getD wd_set wd_len wd_replicate wd_one wd_fold fz_osl hupd_same aSix.eq_def aEqS.eq_def aEqB_bool aEqB_nsl aEqB_nil
attribute [local simp] szT3 byT3 agT3 unT3 zoT3 szT24 byT24 agT24 unT24 zoT24 szT194 byT194 agT194 unT194 zoT194

set_option maxHeartbeats 4000000 in
theorem div64_fc {hi lo y0 : Int} (h0 : 0 ≤ hi) (h1 : hi < y0) (hl0 : 0 ≤ lo) (hl : lo < 18446744073709551616) (hy : y0 < 18446744073709551616) : FC Try.prog 214 [.int .u64 hi, .int .u64 lo, .int .u64 y0] (.tup [.int .u64 ((hi * 18446744073709551616 + lo) / y0), .int .u64 ((hi * 18446744073709551616 + lo) % y0)]) := by
  obtain ⟨y, rfl⟩ := Int.eq_ofNat_of_zero_le (show 0 ≤ y0 by omega)
  obtain ⟨S, p, Y, U, X, hbl, hS, hp, hp0, hY, hYp, hY1, hY2, hhi0, hhi1, hor, hU0, hU, hX, hN⟩ := dv_norm h0 h1 hl0 hl (show y < 18446744073709551616 by omega)
  have hX0 : 0 ≤ X ∧ X < 18446744073709551616 := by omega
  have hwX : IntKind.u64.wrap (lo * 2 ^ S) = X := by rw [wrap_u64m, hX]
  have hmin : min S 64 = S := by omega
  have hmin2 : min (64 - S) 64 = 64 - S := by omega
  have w8 : (64 : Int) - (bitLen y : Int) = S := by omega
  have hyn : y ≠ 0 := by omega
  have c64 : (S : Int) ≤ 64 := by omega
  have w9 : ((64 : Int) - (S : Int)).toNat = 64 - S := by omega
  have f1 : (lo.fdiv (2 ^ (64 - S))) = lo / 2 ^ (64 - S) := Int.fdiv_eq_ediv_of_nonneg _ (Int.le_of_lt (pow2_pos _))
  refine FC.body Try.func214 rfl (by simp [idfL, idf, idfLL_iff]) (by simp [idfL, idf, idfLL_iff]) 135 rfl fun nx K hK => ?_
  refine AWP.seqk fun K1 hK1 => ?_
  refine AWP.region (AOPS.all (by simp (disch := first|omega|(simp only[ln];omega)); rfl) ?_)
  refine hK1 _ ?_
  refine AWP.seqk fun K2 hK2 => ?_
  refine AWP.seqk fun K3 hK3 => ?_
  refine AWP.region (AOPS.all (by simp (disch := first|omega|(simp only[ln];omega)); rfl) ?_)
  refine hK3 _ ?_
  refine cond_ok _ (by simp (disch := first|omega|(simp only[ln];omega)); rfl) (fun h20 => ?_) (fun h20 => ?_)
  · simp at h20; omega
  · try simp only [decide_eq_true_eq, decide_eq_false_iff_not] at h20
    refine AWP.skip ?_
    refine hK2 _ ?_
    refine AWP.seqk fun K4 hK4 => ?_
    refine AWP.seqk fun K5 hK5 => ?_
    refine AWP.region (AOPS.all (by simp (disch := first|omega|(simp only[ln];omega)); rfl) ?_)
    refine hK5 _ ?_
    refine cond_ok _ (by simp (disch := first|omega|(simp only[ln];omega)); rfl) (fun h24 => ?_) (fun h24 => ?_)
    · simp at h24; omega
    · try simp only [decide_eq_true_eq, decide_eq_false_iff_not] at h24
      refine AWP.skip ?_
      refine hK4 _ ?_
      refine AWP.seqk fun K6 hK6 => ?_
      refine AWP.seqk fun K7 hK7 => ?_
      refine AWP.region (AOPS.all (by simp (disch := first|omega|(simp only[ln];omega)); rfl) ?_)
      refine hK7 _ ?_
      refine cond_ok _ (by simp (disch := first|omega|(simp only[ln];omega)); rfl) (fun h27 => ?_) (fun h27 => ?_)
      · try simp only [decide_eq_true_eq, decide_eq_false_iff_not] at h27
        have hi0 : hi = 0 := by simpa using h27
        subst hi0
        have tq1 : lo.tdiv (y : Int) = lo / y := Int.tdiv_eq_ediv_of_nonneg hl0
        have tq2 : lo.tmod (y : Int) = lo % y := Int.tmod_eq_emod_of_nonneg hl0
        have dn0 : 0 ≤ lo / (y : Int) := Int.ediv_nonneg hl0 (by omega)
        have dn1 : lo / (y : Int) ≤ lo := Int.ediv_le_self _ hl0
        have dn2 := Int.emod_nonneg lo (show (y : Int) ≠ 0 by omega)
        have dn3 := Int.emod_lt_of_pos lo h1
        refine AWP.seqk fun K8 hK8 => ?_
        refine AWP.drawF 6 Try.checked.mixed (by kernel_rfl) (by simp (disch := first|omega|(simp only[ln];omega)) [runDf.eq_def, runF1, runF2, stepF.eq_def, updo.eq_def, hupo.eq_def, opSto1.eq_def, tq1, tq2, hyn]; rfl) ?_
        refine hK8 _ ?_
        refine AWP.ret ?_
        exact hK _ _ _ _ trivial ((Fin.mk (by simp [aRes, aResL, aRes1]; rfl)).cast (by simp))
      · try simp only [decide_eq_true_eq, decide_eq_false_iff_not] at h27
        refine AWP.skip ?_
        refine hK6 _ ?_
        refine AWP.seqk fun K9 hK9 => ?_
        refine AWP.region ?_
        refine AOPS.runk 1 (by simp (disch := first|omega|(simp only[ln];omega)) [List.take_succ_cons, List.take_zero, w8]; rfl) ?_
        simp only [List.drop_succ_cons, List.drop_zero]
        refine AOPS.fcall (lz64_fc y (by omega)) rfl rfl rfl hb171 (by simp (disch := first|omega|(simp only[ln];omega)) [idf_Wd', w8]) (by simp (disch := first|omega|(simp only[ln];omega)) [w8]) (by simp) ?_
        simp only [puts_some, updo]
        refine AOPS.all (by simp (disch := first|omega|(simp only[ln];omega)) [w8]; rfl) ?_
        refine hK9 _ ?_
        refine AWP.seqk fun K10 hK10 => ?_
        refine AWP.region (AOPS.all (by simp (disch := first|omega|(simp only[ln];omega)) [hmin, hY, IntKind.bits]; rfl) ?_)
        refine hK10 _ ?_
        refine AWP.seqk fun K11 hK11 => ?_
        refine AWP.region (AOPS.all (by simp (disch := first|omega|(simp only[ln];omega)) [IntKind.bits, Int.fdiv_eq_ediv_of_nonneg]; rfl) ?_)
        refine hK11 _ ?_
        refine AWP.seqk fun K12 hK12 => ?_
        refine AWP.region (AOPS.all (by simp (disch := first|omega|(simp only[ln];omega)) [and_low32]; rfl) ?_)
        refine hK12 _ ?_
        refine AWP.seqk fun K13 hK13 => ?_
        refine AWP.region (AOPS.all (by simp (disch := first|omega|(simp only[ln];omega)) [hmin, hmin2, w9, hor, f1, c64, IntKind.bits]; rfl) ?_)
        refine hK13 _ ?_
        refine AWP.seqk fun K14 hK14 => ?_
        refine AWP.region (AOPS.all (by simp (disch := first|omega|(simp only[ln];omega)) [hmin, hwX, IntKind.bits]; rfl) ?_)
        refine hK14 _ ?_
        refine AWP.seqk fun K15 hK15 => ?_
        refine AWP.region (AOPS.all (by simp (disch := first|omega|(simp only[ln];omega)) [IntKind.bits, Int.fdiv_eq_ediv_of_nonneg]; rfl) ?_)
        refine hK15 _ ?_
        refine AWP.seqk fun K16 hK16 => ?_
        refine AWP.region (AOPS.all (by simp (disch := first|omega|(simp only[ln];omega)) [and_low32]; rfl) ?_)
        refine hK16 _ ?_
        refine AWP.seqk fun K17 hK17 => ?_
        have hy1n : Y / 4294967296 ≠ 0 := by omega
        have eY : Y / 4294967296 * 4294967296 + Y % 4294967296 = Y := by omega
        have hD0 := DvH.start (y1 := Y / 4294967296) (y0 := Y % 4294967296) (u := U) (un := X / 4294967296) (by omega) (by omega) (by omega) hU0 (by omega) (by omega)
        have hd0 := hD0.q0
        have hd1 := hD0.qm
        have hd2 := hD0.r0
        have hd3 := hD0.e
        have tq : U.tdiv (Y / 4294967296) = U / (Y / 4294967296) := Int.tdiv_eq_ediv_of_nonneg hU0
        have dm := Int.emod_lt_of_pos U (show 0 < Y / 4294967296 by omega)
        have dm2 := Int.mul_ediv_add_emod U (Y / 4294967296)
        rw [Int.mul_comm] at dm2
        have w16 : IntKind.u64.wrap (U - IntKind.u64.wrap (U / (Y / 4294967296) * (Y / 4294967296))) = U - U / (Y / 4294967296) * (Y / 4294967296) := by simp only [wrap_u64m]; omega
        refine AWP.region (AOPS.all (by simp (disch := first|omega|(simp only[ln];omega)) [tq, hy1n]; rfl) ?_)
        refine hK17 _ ?_
        refine AWP.seqk fun K18 hK18 => ?_
        refine AWP.region (AOPS.all (by simp (disch := first|omega|(simp only[ln];omega)); rfl) ?_)
        refine hK18 _ ?_
        refine AWP.seqk fun K19 hK19 => ?_
        have J19 : ∀ s : St, (∃ q : Int, 0 ≤ q ∧ q < 4294967296 ∧ 0 ≤ (U) * 4294967296 + X / 4294967296 - q * Y ∧ (U) * 4294967296 + X / 4294967296 - q * Y < Y ∧ s.env 2 = .int .u64 Y ∧ s.env 8 = .int .u64 (S : Int) ∧ s.env 9 = .int .u64 (Y / 4294967296) ∧ s.env 10 = .int .u64 (Y % 4294967296) ∧ s.env 11 = .int .u64 U ∧ s.env 13 = .int .u64 (X / 4294967296) ∧ s.env 14 = .int .u64 (X % 4294967296) ∧ s.env 15 = .int .u64 q ∧ s.nt = 135) → K19 s := by
          rintro ⟨e, H, m, nt⟩ ⟨q1, q10, q11, k0, k1, g2, g8, g9, g10, g11, g13, g14, g15, rfl⟩
          simp only [] at g2 g8 g9 g10 g11 g13 g14 g15
          obtain ⟨R1, hR1⟩ : ∃ R1, U * 4294967296 + X / 4294967296 - q1 * Y = R1 := ⟨_, rfl⟩
          rw [hR1] at k0 k1
          have hR1' : IntKind.u64.wrap (IntKind.u64.wrap (IntKind.u64.wrap (U * 4294967296) + X / 4294967296) - IntKind.u64.wrap (q1 * Y)) = R1 := by
            simp only [wrap_u64m]; omega
          refine hK19 _ ?_
          refine AWP.seqk fun K20 hK20 => ?_
          refine AWP.region (AOPS.all (by simp (disch := first|omega|(simp only[ln];omega)) [g11, g13, g15, g2, hR1']; rfl) ?_)
          refine hK20 _ ?_
          refine AWP.seqk fun K21 hK21 => ?_
          have hy1n : Y / 4294967296 ≠ 0 := by omega
          have eY : Y / 4294967296 * 4294967296 + Y % 4294967296 = Y := by omega
          have hD0 := DvH.start (y1 := Y / 4294967296) (y0 := Y % 4294967296) (u := R1) (un := X % 4294967296) (by omega) (by omega) (by omega) k0 (by omega) (by omega)
          have hd0 := hD0.q0
          have hd1 := hD0.qm
          have hd2 := hD0.r0
          have hd3 := hD0.e
          have tq : R1.tdiv (Y / 4294967296) = R1 / (Y / 4294967296) := Int.tdiv_eq_ediv_of_nonneg k0
          have dm := Int.emod_lt_of_pos R1 (show 0 < Y / 4294967296 by omega)
          have dm2 := Int.mul_ediv_add_emod R1 (Y / 4294967296)
          rw [Int.mul_comm] at dm2
          have w16 : IntKind.u64.wrap (R1 - IntKind.u64.wrap (R1 / (Y / 4294967296) * (Y / 4294967296))) = R1 - R1 / (Y / 4294967296) * (Y / 4294967296) := by simp only [wrap_u64m]; omega
          refine AWP.region (AOPS.all (by simp (disch := first|omega|(simp only[ln];omega)) [g9, tq, hy1n]; rfl) ?_)
          refine hK21 _ ?_
          refine AWP.seqk fun K22 hK22 => ?_
          refine AWP.region (AOPS.all (by simp (disch := first|omega|(simp only[ln];omega)) [g9]; rfl) ?_)
          refine hK22 _ ?_
          refine AWP.seqk fun K23 hK23 => ?_
          have J23 : ∀ s : St, (∃ q : Int, 0 ≤ q ∧ q < 4294967296 ∧ 0 ≤ (R1) * 4294967296 + X % 4294967296 - q * Y ∧ (R1) * 4294967296 + X % 4294967296 - q * Y < Y ∧ s.env 2 = .int .u64 Y ∧ s.env 8 = .int .u64 (S : Int) ∧ s.env 9 = .int .u64 (Y / 4294967296) ∧ s.env 10 = .int .u64 (Y % 4294967296) ∧ s.env 14 = .int .u64 (X % 4294967296) ∧ s.env 15 = .int .u64 q1 ∧ s.env 17 = .int .u64 R1 ∧ s.env 18 = .int .u64 q ∧ s.nt = 135) → K23 s := by
            clear g2 g8 g9 g10 g11 g13 g14 g15
            rintro ⟨e, H, m, nt⟩ ⟨q0, q00, q01, k2, k3, g2, g8, g9, g10, g14, g15, g17, g18, rfl⟩
            simp only [] at g2 g8 g9 g10 g14 g15 g17 g18
            obtain ⟨R0, hR0⟩ : ∃ R0, R1 * 4294967296 + X % 4294967296 - q0 * Y = R0 := ⟨_, rfl⟩
            rw [hR0] at k2 k3
            have hR0' : IntKind.u64.wrap (IntKind.u64.wrap (IntKind.u64.wrap (R1 * 4294967296) + X % 4294967296) - IntKind.u64.wrap (q0 * Y)) = R0 := by
              simp only [wrap_u64m]; omega
            have hf := dv_fin (N := hi * 18446744073709551616 + lo) (y := (y : Int)) (u := U) (un1 := X / 4294967296) (un0 := X % 4294967296) (q1 := q1) (q0 := q0) (R1 := R1) (R0 := R0) hp0 (by rw [← hYp]; exact hR1) (by rw [← hYp]; exact hR0) (by rw [hN]; omega) k2 (by rw [← hYp]; exact k3)
            have f2 : R0.fdiv (2 ^ S) = R0 / 2 ^ S := Int.fdiv_eq_ediv_of_nonneg _ (Int.le_of_lt (pow2_pos _))
            refine hK23 _ ?_
            refine AWP.seqk fun K24 hK24 => ?_
            refine AWP.region (AOPS.all (by simp (disch := first|omega|(simp only[ln];omega)) [g2, g8, g14, g15, g17, g18, hR0', hmin, IntKind.bits, f2]; rfl) ?_)
            refine hK24 _ ?_
            refine AWP.ret ?_
            exact hK _ _ _ _ trivial ((Fin.mk (by simp [aRes, aResL, aRes1]; rfl)).cast (by first | rw [hf.1, hf.2, hp] | skip))
          refine AWP.block ?_
          refine AWP.loop (fun n s => ∃ q r : Int, n = q.toNat ∧ DvH (Y / 4294967296) (Y % 4294967296) (R1) (X % 4294967296) q r ∧ r < 4294967296 ∧ s.env 2 = .int .u64 Y ∧ s.env 8 = .int .u64 (S : Int) ∧ s.env 9 = .int .u64 (Y / 4294967296) ∧ s.env 10 = .int .u64 (Y % 4294967296) ∧ s.env 14 = .int .u64 (X % 4294967296) ∧ s.env 15 = .int .u64 q1 ∧ s.env 17 = .int .u64 R1 ∧ s.env 18 = .int .u64 q ∧ s.env 16 = .int .u64 r ∧ s.nt = 135) (((R1) / (Y / 4294967296)).toNat) (⟨(R1) / (Y / 4294967296), (R1) - (R1) / (Y / 4294967296) * (Y / 4294967296), rfl, hD0, by omega, by simp [g2], by simp [g8], by simp [g9], by simp [g10], by simp [g14], by simp [g15], by simp, by simp, by simp [w16], rfl⟩) ?_
          rintro n ⟨e, H, m, nt⟩ ⟨q, r, rfl, hD, hr, g2, g8, g9, g10, g14, g15, g17, gq, gr, rfl⟩
          simp only [] at g2 g8 g9 g10 g14 g15 g17 gq gr
          have hr0 := hD.r0
          have hq0 := hD.q0
          have hqm := hD.qm
          refine AWP.seqk fun K25 hK25 => ?_
          refine AWP.seqk fun K26 hK26 => ?_
          by_cases hqB : 4294967296 ≤ q
          · have c1 : decide (4294967296 ≤ q) = true := by simp; omega
            refine AWP.region (AOPS.all (by simp (disch := first|omega|(simp only[ln];omega)) [gq, c1]; rfl) ?_)
            refine hK26 _ ?_
            refine cond_ok _ (by simp (disch := first|omega|(simp only[ln];omega)); rfl) (fun h113 => ?_) (fun h113 => ?_)
            · try simp only [decide_eq_true_eq, decide_eq_false_iff_not] at h113
              have hq1 := hD.pos (by omega) (.inl hqB)
              have hst := hD.step (by omega) (by omega) (by omega) (by omega) (by omega) (.inl hqB)
              refine AWP.skip ?_
              refine hK25 _ ?_
              refine AWP.block ?_
              refine AWP.seqk fun K27 hK27 => ?_
              refine AWP.region (AOPS.all (by simp (disch := first|omega|(simp only[ln];omega)) [gq]; rfl) ?_)
              refine hK27 _ ?_
              refine AWP.seqk fun K28 hK28 => ?_
              refine AWP.region (AOPS.all (by simp (disch := first|omega|(simp only[ln];omega)) [gr, g9]; rfl) ?_)
              refine hK28 _ ?_
              refine AWP.seqk fun K29 hK29 => ?_
              refine AWP.region (AOPS.all (by simp (disch := first|omega|(simp only[ln];omega)); rfl) ?_)
              refine hK29 _ ?_
              refine cond_ok _ (by simp (disch := first|omega|(simp only[ln];omega)); rfl) (fun h120 => ?_) (fun h120 => ?_)
              · try simp only [decide_eq_true_eq, decide_eq_false_iff_not] at h120
                have ho := hst.out (by omega) (by omega) (by omega) (by omega) (by omega) (by omega) (.inr ⟨by omega, by omega⟩)
                rw [eY] at ho
                refine AWP.exit ?_
                refine J23 _ ?_
                exact ⟨q - 1, by omega, ho.2.2, ho.1, ho.2.1, by simp [g2], by simp [g8], by simp [g9], by simp [g10], by simp [g14], by simp [g15], by simp [g17], by simp [gq], rfl⟩
              · try simp only [decide_eq_true_eq, decide_eq_false_iff_not] at h120
                refine AWP.skip ?_
                refine ⟨(q - 1).toNat, by omega, q - 1, r + Y / 4294967296, rfl, hst, by omega, by simp [g2], by simp [g8], by simp [g9], by simp [g10], by simp [g14], by simp [g15], by simp [g17], by simp, by simp, rfl⟩
            · simp at h113
          · have c1 : decide (4294967296 ≤ q) = false := by simp; omega
            have m1 : q * (Y % 4294967296) ≤ 4294967295 * 4294967295 := Int.mul_le_mul (by omega) (by omega) (by omega) (by omega)
            have m0 : 0 ≤ q * (Y % 4294967296) := Int.mul_nonneg (by omega) (by omega)
            refine AWP.region (AOPS.all (by simp (disch := first|omega|(simp only[ln];omega)) [gq, gr, g10, g14, c1]; rfl) ?_)
            refine hK26 _ ?_
            refine cond_ok _ (by simp (disch := first|omega|(simp only[ln];omega)); rfl) (fun h113 => ?_) (fun h113 => ?_)
            · try simp only [decide_eq_true_eq, decide_eq_false_iff_not] at h113
              have hq1 := hD.pos (by omega) (.inr (by omega))
              have hst := hD.step (by omega) (by omega) (by omega) (by omega) (by omega) (.inr (by omega))
              refine AWP.skip ?_
              refine hK25 _ ?_
              refine AWP.block ?_
              refine AWP.seqk fun K30 hK30 => ?_
              refine AWP.region (AOPS.all (by simp (disch := first|omega|(simp only[ln];omega)) [gq]; rfl) ?_)
              refine hK30 _ ?_
              refine AWP.seqk fun K31 hK31 => ?_
              refine AWP.region (AOPS.all (by simp (disch := first|omega|(simp only[ln];omega)) [gr, g9]; rfl) ?_)
              refine hK31 _ ?_
              refine AWP.seqk fun K32 hK32 => ?_
              refine AWP.region (AOPS.all (by simp (disch := first|omega|(simp only[ln];omega)); rfl) ?_)
              refine hK32 _ ?_
              refine cond_ok _ (by simp (disch := first|omega|(simp only[ln];omega)); rfl) (fun h120 => ?_) (fun h120 => ?_)
              · try simp only [decide_eq_true_eq, decide_eq_false_iff_not] at h120
                have ho := hst.out (by omega) (by omega) (by omega) (by omega) (by omega) (by omega) (.inr ⟨by omega, by omega⟩)
                rw [eY] at ho
                refine AWP.exit ?_
                refine J23 _ ?_
                exact ⟨q - 1, by omega, ho.2.2, ho.1, ho.2.1, by simp [g2], by simp [g8], by simp [g9], by simp [g10], by simp [g14], by simp [g15], by simp [g17], by simp [gq], rfl⟩
              · try simp only [decide_eq_true_eq, decide_eq_false_iff_not] at h120
                refine AWP.skip ?_
                refine ⟨(q - 1).toNat, by omega, q - 1, r + Y / 4294967296, rfl, hst, by omega, by simp [g2], by simp [g8], by simp [g9], by simp [g10], by simp [g14], by simp [g15], by simp [g17], by simp, by simp, rfl⟩
            · try simp only [decide_eq_true_eq, decide_eq_false_iff_not] at h113
              have ho := hD.out (by omega) (by omega) (by omega) (by omega) (by omega) (by omega) (.inl ⟨by omega, by omega⟩)
              rw [eY] at ho
              refine AWP.exit ?_
              refine J23 _ ?_
              exact ⟨q, by omega, ho.2.2, ho.1, ho.2.1, by simp [g2], by simp [g8], by simp [g9], by simp [g10], by simp [g14], by simp [g15], by simp [g17], by simp [gq], rfl⟩
        refine AWP.block ?_
        refine AWP.loop (fun n s => ∃ q r : Int, n = q.toNat ∧ DvH (Y / 4294967296) (Y % 4294967296) (U) (X / 4294967296) q r ∧ r < 4294967296 ∧ s.env 2 = .int .u64 Y ∧ s.env 8 = .int .u64 (S : Int) ∧ s.env 9 = .int .u64 (Y / 4294967296) ∧ s.env 10 = .int .u64 (Y % 4294967296) ∧ s.env 11 = .int .u64 U ∧ s.env 13 = .int .u64 (X / 4294967296) ∧ s.env 14 = .int .u64 (X % 4294967296) ∧ s.env 15 = .int .u64 q ∧ s.env 16 = .int .u64 r ∧ s.nt = 135) (((U) / (Y / 4294967296)).toNat) (⟨(U) / (Y / 4294967296), (U) - (U) / (Y / 4294967296) * (Y / 4294967296), rfl, hD0, by omega, by simp, by simp, by simp, by simp, by simp, by simp, by simp, by simp, by simp [w16], rfl⟩) ?_
        rintro n ⟨e, H, m, nt⟩ ⟨q, r, rfl, hD, hr, g2, g8, g9, g10, g11, g13, g14, gq, gr, rfl⟩
        simp only [] at g2 g8 g9 g10 g11 g13 g14 gq gr
        have hr0 := hD.r0
        have hq0 := hD.q0
        have hqm := hD.qm
        refine AWP.seqk fun K33 hK33 => ?_
        refine AWP.seqk fun K34 hK34 => ?_
        by_cases hqB : 4294967296 ≤ q
        · have c1 : decide (4294967296 ≤ q) = true := by simp; omega
          refine AWP.region (AOPS.all (by simp (disch := first|omega|(simp only[ln];omega)) [gq, c1]; rfl) ?_)
          refine hK34 _ ?_
          refine cond_ok _ (by simp (disch := first|omega|(simp only[ln];omega)); rfl) (fun h78 => ?_) (fun h78 => ?_)
          · try simp only [decide_eq_true_eq, decide_eq_false_iff_not] at h78
            have hq1 := hD.pos (by omega) (.inl hqB)
            have hst := hD.step (by omega) (by omega) (by omega) (by omega) (by omega) (.inl hqB)
            refine AWP.skip ?_
            refine hK33 _ ?_
            refine AWP.block ?_
            refine AWP.seqk fun K35 hK35 => ?_
            refine AWP.region (AOPS.all (by simp (disch := first|omega|(simp only[ln];omega)) [gq]; rfl) ?_)
            refine hK35 _ ?_
            refine AWP.seqk fun K36 hK36 => ?_
            refine AWP.region (AOPS.all (by simp (disch := first|omega|(simp only[ln];omega)) [gr, g9]; rfl) ?_)
            refine hK36 _ ?_
            refine AWP.seqk fun K37 hK37 => ?_
            refine AWP.region (AOPS.all (by simp (disch := first|omega|(simp only[ln];omega)); rfl) ?_)
            refine hK37 _ ?_
            refine cond_ok _ (by simp (disch := first|omega|(simp only[ln];omega)); rfl) (fun h85 => ?_) (fun h85 => ?_)
            · try simp only [decide_eq_true_eq, decide_eq_false_iff_not] at h85
              have ho := hst.out (by omega) (by omega) (by omega) (by omega) (by omega) (by omega) (.inr ⟨by omega, by omega⟩)
              rw [eY] at ho
              refine AWP.exit ?_
              refine J19 _ ?_
              exact ⟨q - 1, by omega, ho.2.2, ho.1, ho.2.1, by simp [g2], by simp [g8], by simp [g9], by simp [g10], by simp [g11], by simp [g13], by simp [g14], by simp [gq], rfl⟩
            · try simp only [decide_eq_true_eq, decide_eq_false_iff_not] at h85
              refine AWP.skip ?_
              refine ⟨(q - 1).toNat, by omega, q - 1, r + Y / 4294967296, rfl, hst, by omega, by simp [g2], by simp [g8], by simp [g9], by simp [g10], by simp [g11], by simp [g13], by simp [g14], by simp, by simp, rfl⟩
          · simp at h78
        · have c1 : decide (4294967296 ≤ q) = false := by simp; omega
          have m1 : q * (Y % 4294967296) ≤ 4294967295 * 4294967295 := Int.mul_le_mul (by omega) (by omega) (by omega) (by omega)
          have m0 : 0 ≤ q * (Y % 4294967296) := Int.mul_nonneg (by omega) (by omega)
          refine AWP.region (AOPS.all (by simp (disch := first|omega|(simp only[ln];omega)) [gq, gr, g10, g13, c1]; rfl) ?_)
          refine hK34 _ ?_
          refine cond_ok _ (by simp (disch := first|omega|(simp only[ln];omega)); rfl) (fun h78 => ?_) (fun h78 => ?_)
          · try simp only [decide_eq_true_eq, decide_eq_false_iff_not] at h78
            have hq1 := hD.pos (by omega) (.inr (by omega))
            have hst := hD.step (by omega) (by omega) (by omega) (by omega) (by omega) (.inr (by omega))
            refine AWP.skip ?_
            refine hK33 _ ?_
            refine AWP.block ?_
            refine AWP.seqk fun K38 hK38 => ?_
            refine AWP.region (AOPS.all (by simp (disch := first|omega|(simp only[ln];omega)) [gq]; rfl) ?_)
            refine hK38 _ ?_
            refine AWP.seqk fun K39 hK39 => ?_
            refine AWP.region (AOPS.all (by simp (disch := first|omega|(simp only[ln];omega)) [gr, g9]; rfl) ?_)
            refine hK39 _ ?_
            refine AWP.seqk fun K40 hK40 => ?_
            refine AWP.region (AOPS.all (by simp (disch := first|omega|(simp only[ln];omega)); rfl) ?_)
            refine hK40 _ ?_
            refine cond_ok _ (by simp (disch := first|omega|(simp only[ln];omega)); rfl) (fun h85 => ?_) (fun h85 => ?_)
            · try simp only [decide_eq_true_eq, decide_eq_false_iff_not] at h85
              have ho := hst.out (by omega) (by omega) (by omega) (by omega) (by omega) (by omega) (.inr ⟨by omega, by omega⟩)
              rw [eY] at ho
              refine AWP.exit ?_
              refine J19 _ ?_
              exact ⟨q - 1, by omega, ho.2.2, ho.1, ho.2.1, by simp [g2], by simp [g8], by simp [g9], by simp [g10], by simp [g11], by simp [g13], by simp [g14], by simp [gq], rfl⟩
            · try simp only [decide_eq_true_eq, decide_eq_false_iff_not] at h85
              refine AWP.skip ?_
              refine ⟨(q - 1).toNat, by omega, q - 1, r + Y / 4294967296, rfl, hst, by omega, by simp [g2], by simp [g8], by simp [g9], by simp [g10], by simp [g11], by simp [g13], by simp [g14], by simp, by simp, rfl⟩
          · try simp only [decide_eq_true_eq, decide_eq_false_iff_not] at h78
            have ho := hD.out (by omega) (by omega) (by omega) (by omega) (by omega) (by omega) (.inl ⟨by omega, by omega⟩)
            rw [eY] at ho
            refine AWP.exit ?_
            refine J19 _ ?_
            exact ⟨q, by omega, ho.2.2, ho.1, ho.2.1, by simp [g2], by simp [g8], by simp [g9], by simp [g10], by simp [g11], by simp [g13], by simp [g14], by simp [gq], rfl⟩

end Go.Proofs.Ytmaebeknmiomnaa

/- Walks: words moved up. -/
namespace Go.Proofs.Ytmaebeknmiomnaa
open Go Go.RowKit
set_option linter.unusedSimpArgs false
set_option linter.unusedVariables false
set_option maxRecDepth 100000
attribute [local simp] List.getElem?_cons_zero List.getElem?_cons_succ List.getElem?_toArray runOps stepOp.eq_def agd.eq_def dstOk.eq_def opVal.eq_def opNew.eq_def opSto.eq_def ev.eq_def cv.eq_def puts_some puts_none upd_ap lst.eq_def aBin.eq_def aUn.eq_def aBi_str aBi_isl aBi_osl aBi_nsl aBi_max aBi_min aBi_max3 aConv.eq_def aLd.eq_def aLoad.eq_def aField.eq_def aFld.eq_def aIdx_isl aIdx_osl aSlc_isl aSlc_osl aSlc_str aSlc_nsl bnd.eq_def evs_nil evs_cons aBuild.eq_def aFill splice.eq_def cells_agg cells_int cells_bool cells_str cells_nil cells_nsl cells_isl cells_osl cells_ptr cells_ip cells_fn cells_Wd one_int one_bool one_str one_nil one_nsl one_isl one_osl one_ptr one_ip one_fn one_Wd aSets hupd_eq hupd_ne wrap_i64s wrap_u64s wrap_u32s wrap_u8s wd_getD wd_set wd_len wd_replicate wd_one wd_fold fz_osl hupd_same aSix.eq_def aEqS.eq_def aEqB_bool aEqB_nsl aEqB_nil
attribute [local simp] szT3 byT3 agT3 unT3 zoT3 szT24 byT24 agT24 unT24 zoT24 szT117 byT117 agT117 elT117 unT117 zoT117

set_option maxHeartbeats 2000000 in
theorem shifted_fo (w : List Int) (k : Nat) (dw : Dig 18446744073709551616 w) (hk : k ≤ 63) (hl : w.length ≤ 274877906944) : FO Try.prog 215 [Wd .u64 w, .int .i64 (k : Int)] 1 (wd .u64 (shW w (2 ^ k))) := by
  have hp1 : (1 : Int) ≤ 2 ^ k := by have := pow2_pos k; omega
  have c64 : (k : Int) ≤ 64 := by omega
  have hmin : min k 64 = k := by omega
  have hmin2 : min (64 - k) 64 = 64 - k := by omega
  have w9 : ((64 : Int) - (k : Int)).toNat = 64 - k := by omega
  have f1 : ∀ x : Int, x.fdiv (2 ^ (64 - k)) = x / 2 ^ (64 - k) := fun x => Int.fdiv_eq_ediv_of_nonneg _ (Int.le_of_lt (pow2_pos _))
  refine FO.body Try.func215 rfl (by simp [idfL, idf, idfLL_iff, idf_Wd']) (wd_pln _ _) 40 rfl fun nx K hK => ?_
  refine AWP.seqk fun K1 hK1 => ?_
  refine AWP.region (AOPS.all (by simp (disch := first|omega|(simp only[ln];omega)) [idf_Wd']; rfl) ?_)
  refine hK1 _ ?_
  refine AWP.seqk fun K2 hK2 => ?_
  refine AWP.region (AOPS.all (by simp (disch := first|omega|(simp only[ln];omega)) [if_pos, len_Wd (P := Try.prog) #[117] rfl elT117, idf_Wd']; rfl) ?_)
  refine hK2 _ ?_
  refine AWP.seqk fun K3 hK3 => ?_
  refine AWP.seqk fun K4 hK4 => ?_
  refine AWP.region (AOPS.all (by simp (disch := first|omega|(simp only[ln];omega)) [len_Wd (P := Try.prog) #[117] rfl elT117, idf_Wd']; rfl) ?_)
  refine hK4 _ ?_
  refine AWP.block ?_
  have et0 : ((w.length : Int) + 1).toNat = w.length + 1 := by omega
  have hs0 : List.replicate (w.length + 1) (0 : Int) = shS w (2 ^ k) 0 := by simp [shS, shR, List.replicate_succ]
  refine AWP.loop (fun n s => ∃ i id : Nat, n = w.length - i ∧ i ≤ w.length ∧ s.env 1 = .int .i64 (k : Int) ∧ s.env 5 = .osl id 0 (w.length + 1) ∧ s.env 12 = Wd .u64 w ∧ s.env 13 = .int .i64 (w.length : Int) ∧ s.env 14 = .int .i64 (i : Int) ∧ s.heap id = some (1, wd .u64 (shS w (2 ^ k) i)) ∧ id < s.nx ∧ s.nt = 40) (w.length) (⟨0, nx, by omega, by omega, by simp, by simp [et0], by simp, by simp, by simp, by simp [et0, hs0], by simp, rfl⟩) ?_
  rintro n ⟨e, H, m, nt⟩ ⟨i, id, rfl, hi, h1, h5, h12, h13, h14, hH, hid, rfl⟩
  simp only [] at h1 h5 h12 h13 h14 hH hid
  obtain ⟨r1, r2, r3, r4, r5⟩ := shR_spec dw hp1 i
  have hsl := shS_len dw hp1 hi
  have hsg := shS_gt dw hp1 i
  refine AWP.seqk fun K5 hK5 => ?_
  refine AWP.region (AOPS.all (by simp (disch := first|omega|(simp only[ln];omega)) [idf_Wd', h13, h14]; rfl) ?_)
  refine hK5 _ ?_
  refine AWP.seqk fun K6 hK6 => ?_
  refine cond_ok _ (by simp (disch := first|omega|(simp only[ln];omega)); rfl) (fun h15 => ?_) (fun h15 => ?_)
  · try simp only [decide_eq_true_eq, decide_eq_false_iff_not] at h15
    have hi' : i < w.length := by omega
    have gw := dw.gt (by omega) i
    obtain ⟨st1, st2⟩ := sh_step hk gw.1 gw.2 r3 r4
    have m0 : 0 ≤ gt w i * 2 ^ k := Int.mul_nonneg gw.1 (by omega)
    have e1 := shS_step dw hp1 hi'
    have hwm : IntKind.u64.wrap (gt w i * 2 ^ k) = gt w i * 2 ^ k % 18446744073709551616 := wrap_u64m _
    refine AWP.skip ?_
    refine hK6 _ ?_
    refine AWP.seqk fun K7 hK7 => ?_
    refine AWP.block ?_
    refine AWP.seqk fun K8 hK8 => ?_
    refine AWP.region (AOPS.all (by simp (disch := first|omega|(simp only[ln];omega)) [idx_WdD (P := Try.prog) elT117 szT24, if_pos, idf_Wd', h12, h14, ld_ip agT24]; rfl) ?_)
    refine hK8 _ ?_
    refine AWP.seqk fun K9 hK9 => ?_
    refine AWP.drawF 9 Try.checked.mixed (by kernel_rfl) (by simp (disch := first|omega|(simp only[ln];omega)) [runDf.eq_def, runF1, runF2, stepF.eq_def, updo.eq_def, hupo.eq_def, opSto1.eq_def, idx_WdD (P := Try.prog) elT117 szT24, if_pos, idf_Wd', h1, h5, hH, hsl, hsg, hmin, IntKind.bits, hwm, st1]; rfl) ?_
    refine hK9 _ ?_
    refine AWP.seqk fun K10 hK10 => ?_
    refine AWP.region (AOPS.all (by simp (disch := first|omega|(simp only[ln];omega)) [idf_Wd', h1]; rfl) ?_)
    refine hK10 _ ?_
    refine cond_ok _ (by simp (disch := first|omega|(simp only[ln];omega)); rfl) (fun h29 => ?_) (fun h29 => ?_)
    · try simp only [decide_eq_true_eq, decide_eq_false_iff_not] at h29
      refine AWP.region (AOPS.all (by simp (disch := first|omega|(simp only[ln];omega)) [idx_WdD (P := Try.prog) elT117 szT24, if_pos, idf_Wd', h1, h5, hsl, w9, hmin2, f1, st2, IntKind.bits]; rfl) ?_)
      refine hK7 _ ?_
      refine AWP.region (AOPS.all (by simp (disch := first|omega|(simp only[ln];omega)) [idf_Wd', h14]; rfl) ?_)
      refine ⟨w.length - (i + 1), by omega, i + 1, id, rfl, by omega, by simp [h1], by simp [h5], by simp [h12], by simp [h13], by simp (disch := omega) [h14], by simp [← e1], by simp; omega, rfl⟩
    · try simp only [decide_eq_true_eq, decide_eq_false_iff_not] at h29
      have hk0 : k = 0 := by omega
      have e0 := shS_step0 dw hp1 hi' (by rw [← st2]; subst hk0; simp; omega)
      refine AWP.skip ?_
      refine hK7 _ ?_
      refine AWP.region (AOPS.all (by simp (disch := first|omega|(simp only[ln];omega)) [idf_Wd', h14]; rfl) ?_)
      refine ⟨w.length - (i + 1), by omega, i + 1, id, rfl, by omega, by simp [h1], by simp [h5], by simp [h12], by simp [h13], by simp (disch := omega) [h14], by simp [← e0], by simp; omega, rfl⟩
  · try simp only [decide_eq_true_eq, decide_eq_false_iff_not] at h15
    obtain rfl : i = w.length := by omega
    refine AWP.exit ?_
    refine hK3 _ ?_
    refine AWP.seqk fun K11 hK11 => ?_
    refine AWP.region (AOPS.all (by simp (disch := first|omega|(simp only[ln];omega)) [idf_Wd', h5]; rfl) ?_)
    refine hK11 _ ?_
    refine AWP.ret ?_
    exact hK _ _ (id) _ _ trivial ((Fin.mk (r := .osl id 0 (w.length + 1)) (by simp [aRes, aResL, aRes1])).cast (by rw [wd_len, shW, hsl])) (by simp [hH, shW])

end Go.Proofs.Ytmaebeknmiomnaa

/- Walks: words trimmed in place. -/
namespace Go.Proofs.Ytmaebeknmiomnaa
open Go Go.RowKit
set_option linter.unusedSimpArgs false
set_option linter.unusedVariables false
set_option maxRecDepth 100000
attribute [local simp] List.getElem?_cons_zero List.getElem?_cons_succ List.getElem?_toArray runOps stepOp.eq_def agd.eq_def dstOk.eq_def opVal.eq_def opNew.eq_def opSto.eq_def ev.eq_def cv.eq_def puts_some puts_none upd_ap lst.eq_def aBin.eq_def aUn.eq_def aBi_str aBi_isl aBi_osl aBi_nsl aBi_max aBi_min aBi_max3 aConv.eq_def aLd.eq_def aLoad.eq_def aField.eq_def aFld.eq_def aIdx_isl aIdx_osl aSlc_isl aSlc_osl aSlc_str aSlc_nsl bnd.eq_def evs_nil evs_cons aBuild.eq_def aFill splice.eq_def cells_agg cells_int cells_bool cells_str cells_nil cells_nsl cells_isl cells_osl cells_ptr cells_ip cells_fn cells_Wd one_int one_bool one_str one_nil one_nsl one_isl one_osl one_ptr one_ip one_fn one_Wd aSets hupd_eq hupd_ne wrap_i64s wrap_u64s wrap_u32s wrap_u8s wd_getD wd_set wd_len wd_replicate wd_one wd_fold fz_osl hupd_same aSix.eq_def aEqS.eq_def aEqB_bool aEqB_nsl aEqB_nil
attribute [local simp] szT3 byT3 agT3 unT3 zoT3 szT24 byT24 agT24 unT24 zoT24 szT117 byT117 agT117 elT117 unT117 zoT117

set_option maxHeartbeats 1000000 in
theorem trim_ac (l : List Int) (id N : Nat) (H : Heap) (nx : Nat) (hH : H id = some (1, wd .u64 l)) (hN : N ≤ l.length) (hl : l.length ≤ 1099511627776) : ACall Try.prog 176 [.osl id 0 N] H nx (fun r H' nx' => r = .osl id 0 (trimW (l.take N)).length ∧ H' = H ∧ nx ≤ nx') := by
  refine ACall.body Try.func176 rfl 21 rfl fun K hK => ?_
  refine AWP.seqk fun K1 hK1 => ?_
  refine AWP.region (AOPS.all (by simp (disch := first|omega|(simp only[ln];omega)) [idf_Wd']; rfl) ?_)
  refine hK1 _ ?_
  refine AWP.seqk fun K2 hK2 => ?_
  refine AWP.block ?_
  refine AWP.loop (fun n s => ∃ q, n = q ∧ q ≤ N ∧ trimW (l.take q) = trimW (l.take N) ∧ s.env 0 = .osl id 0 q ∧ s.heap = H ∧ nx ≤ s.nx ∧ s.nt = 21) (N) (⟨N, rfl, Nat.le_refl _, rfl, by simp, rfl, by simp, rfl⟩) ?_
  rintro n ⟨e, H2, m, nt⟩ ⟨q, rfl, hq, ht, h0, rfl, hm, rfl⟩
  simp only [] at h0 hm hH
  refine AWP.seqk fun K3 hK3 => ?_
  refine AWP.seqk fun K4 hK4 => ?_
  rcases Nat.eq_zero_or_pos n with rfl | hn0
  · refine AWP.region (AOPS.all (by simp (disch := first|omega|(simp only[ln];omega)) [idx_WdD (P := Try.prog) elT117 szT24, if_pos, len_Wd (P := Try.prog) #[117] rfl elT117, idf_Wd', h0, hH]; rfl) ?_)
    refine hK4 _ ?_
    refine cond_ok _ (by simp (disch := first|omega|(simp only[ln];omega)); rfl) (fun h14 => ?_) (fun h14 => ?_)
    · simp at h14
    · try simp only [decide_eq_true_eq, decide_eq_false_iff_not] at h14
      refine AWP.exit ?_
      refine hK2 _ ?_
      refine AWP.seqk fun K5 hK5 => ?_
      refine AWP.region (AOPS.all (by simp (disch := first|omega|(simp only[ln];omega)) [idf_Wd', h0]; rfl) ?_)
      refine hK5 _ ?_
      refine AWP.ret ?_
      exact hK _ _ _ _ _ trivial (Fin.mk (r := .osl id 0 (trimW (l.take N)).length) (by simp [aRes, aResL, aRes1, ← ht, trimW])) (⟨rfl, rfl, hm⟩)
  · obtain ⟨k, rfl⟩ : ∃ k, n = k + 1 := ⟨n - 1, by omega⟩
    have htk : l.take (k + 1) = l.take k ++ [gt l k] := take_succ_gt (by omega)
    refine AWP.region (AOPS.all (by simp (disch := first|omega|(simp only[ln];omega)) [idx_WdD (P := Try.prog) elT117 szT24, if_pos, len_Wd (P := Try.prog) #[117] rfl elT117, idf_Wd', h0, hH, ld_ip agT24]; rfl) ?_)
    refine hK4 _ ?_
    refine cond_ok _ (by simp (disch := first|omega|(simp only[ln];omega)); rfl) (fun h14 => ?_) (fun h14 => ?_)
    · try simp only [decide_eq_true_eq, decide_eq_false_iff_not] at h14
      have hx : gt l k = 0 := by simpa using h14
      refine AWP.skip ?_
      refine hK3 _ ?_
      refine AWP.block ?_
      refine AWP.region (AOPS.all (by simp (disch := first|omega|(simp only[ln];omega)) [if_pos, len_Wd (P := Try.prog) #[117] rfl elT117, idf_Wd', h0, hH]; rfl) ?_)
      refine ⟨k, by omega, k, rfl, by omega, ?_, by simp, rfl, hm, rfl⟩
      rw [← ht, htk, hx, trimW_concat_zero]
    · try simp only [decide_eq_true_eq, decide_eq_false_iff_not] at h14
      have hx : gt l k ≠ 0 := by simpa using h14
      refine AWP.exit ?_
      refine hK2 _ ?_
      refine AWP.seqk fun K6 hK6 => ?_
      refine AWP.region (AOPS.all (by simp (disch := first|omega|(simp only[ln];omega)) [idf_Wd', h0]; rfl) ?_)
      refine hK6 _ ?_
      refine AWP.ret ?_
      exact hK _ _ _ _ _ trivial (Fin.mk (r := .osl id 0 (trimW (l.take N)).length) (by simp [aRes, aResL, aRes1, ← ht, htk, trimW_concat_pos _ _ hx]; omega)) (⟨rfl, rfl, hm⟩)

end Go.Proofs.Ytmaebeknmiomnaa

/- Walks: the division of words. -/
namespace Go.Proofs.Ytmaebeknmiomnaa
open Go Go.RowKit
set_option linter.unusedSimpArgs false
set_option linter.unusedVariables false
set_option maxRecDepth 100000
attribute [local simp] List.getElem?_cons_zero List.getElem?_cons_succ List.getElem?_toArray runOps stepOp.eq_def agd.eq_def dstOk.eq_def opVal.eq_def opNew.eq_def opSto.eq_def ev.eq_def cv.eq_def puts_some puts_none upd_ap lst.eq_def aBin.eq_def aUn.eq_def aBi_str aBi_isl aBi_osl aBi_nsl aBi_max aBi_min aBi_max3 aConv.eq_def aLd.eq_def aLoad.eq_def aField.eq_def aFld.eq_def aIdx_isl aIdx_osl aSlc_isl aSlc_osl aSlc_str aSlc_nsl bnd.eq_def evs_nil evs_cons aBuild.eq_def aFill splice.eq_def cells_agg cells_int cells_bool cells_str cells_nil cells_nsl cells_isl cells_osl cells_ptr cells_ip cells_fn cells_Wd one_int one_bool one_str one_nil one_nsl one_isl one_osl one_ptr one_ip one_fn one_Wd aSets hupd_eq hupd_ne wrap_i64s wrap_u64s wrap_u32s wrap_u8s wd_getD wd_set wd_len wd_replicate wd_one wd_fold fz_osl hupd_same aSix.eq_def aEqS.eq_def aEqB_bool aEqB_nsl aEqB_nil
attribute [local simp] szT3 byT3 agT3 unT3 zoT3 szT24 byT24 agT24 unT24 zoT24 szT117 byT117 agT117 elT117 unT117 zoT117

set_option maxHeartbeats 8000000 in
theorem divWords_fc (a d : Nat) (hd : d ≠ 0) (la : (mag (a : Int)).length ≤ 68719476736) (lb : (mag (d : Int)).length ≤ 68719476736) : FC Try.prog 172 [Wd .u64 (mag (a : Int)), Wd .u64 (mag (d : Int))] (.tup [Wd .u64 (mag ((a / d : Nat) : Int)), Wd .u64 (mag ((a % d : Nat) : Int))]) := by
  have da := mag_dig (a : Int)
  have dd := mag_dig (d : Int)
  have hcm := cmpI_mag (a : Int) (d : Int)
  rw [Int.natAbs_natCast, Int.natAbs_natCast] at hcm
  refine FC.body Try.func172 rfl (by simp [idfL, idf, idfLL_iff, idf_Wd']) (by simp [idfL, idf, idfLL_iff, idf_Wd']) 326 rfl fun nx K hK => ?_
  refine AWP.seqk fun K1 hK1 => ?_
  refine AWP.region (AOPS.all (by simp (disch := first|omega|(simp only[ln];omega)) [idf_Wd']; rfl) ?_)
  refine hK1 _ ?_
  refine AWP.seqk fun K2 hK2 => ?_
  refine AWP.seqk fun K3 hK3 => ?_
  refine AWP.region ?_
  refine AOPS.runk 2 (by simp (disch := first|omega|(simp only[ln];omega)) [List.take_succ_cons, List.take_zero, idf_Wd']; rfl) ?_
  simp only [List.drop_succ_cons, List.drop_zero]
  refine AOPS.fcall (cmpWords_fc (mag (a : Int)) (mag (d : Int)) (by omega) (by omega)) rfl rfl rfl hb190 (by simp (disch := first|omega|(simp only[ln];omega)) [idf_Wd']) (by simp (disch := first|omega|(simp only[ln];omega))) (by simp) ?_
  simp only [puts_some, updo]
  refine AOPS.all (by simp (disch := first|omega|(simp only[ln];omega)) [idf_Wd']; rfl) ?_
  refine hK3 _ ?_
  refine cond_ok _ (by simp (disch := first|omega|(simp only[ln];omega)); rfl) (fun h34 => ?_) (fun h34 => ?_)
  · try simp only [decide_eq_true_eq, decide_eq_false_iff_not] at h34
    have hlt : a < d := hcm.1.1 (by omega)
    refine AWP.seqk fun K4 hK4 => ?_
    refine AWP.region (AOPS.all (by simp (disch := first|omega|(simp only[ln];omega)) [idf_Wd']; rfl) ?_)
    refine hK4 _ ?_
    refine AWP.ret ?_
    exact hK _ _ _ _ trivial (((Fin.mk (r := .tup [.nsl, Wd .u64 (mag (a : Int))]) (by simp [aRes, aResL, aRes1, idf_Wd'])).weak (r' := .tup [Wd .u64 [], Wd .u64 (mag (a : Int))]) (fun _ _ _ _ h => by
      obtain ⟨vs, rfl, u, r, e, h1, h2⟩ := h
      exact ⟨vs, rfl, u, r, e, nsl_Wd .u64 h1, h2⟩)).cast (by rw [Nat.div_eq_of_lt hlt, Nat.mod_eq_of_lt hlt, show ((0 : Nat) : Int) = 0 from rfl, mag_zero]))
  · try simp only [decide_eq_true_eq, decide_eq_false_iff_not] at h34
    have had : d ≤ a := by
      rcases Nat.lt_or_ge a d with h | h
      · have := hcm.1.2 h; omega
      · exact h
    have hlen : (mag (d : Int)).length ≤ (mag (a : Int)).length := mag_len_mono (by simpa using had)
    have hdl : (mag (d : Int)).length ≠ 0 := by rw [Ne, mag_len0]; omega
    refine AWP.skip ?_
    refine hK2 _ ?_
    refine AWP.seqk fun K5 hK5 => ?_
    refine AWP.region (AOPS.all (by simp (disch := first|omega|(simp only[ln];omega)) [len_Wd (P := Try.prog) #[117] rfl elT117, idf_Wd']; rfl) ?_)
    refine hK5 _ ?_
    refine AWP.seqk fun K6 hK6 => ?_
    refine AWP.seqk fun K7 hK7 => ?_
    refine AWP.region (AOPS.all (by simp (disch := first|omega|(simp only[ln];omega)) [idf_Wd']; rfl) ?_)
    refine hK7 _ ?_
    refine cond_ok _ (by simp (disch := first|omega|(simp only[ln];omega)); rfl) (fun h39 => ?_) (fun h39 => ?_)
    · try simp only [decide_eq_true_eq, decide_eq_false_iff_not] at h39
      have h1l : (mag (d : Int)).length = 1 := by simp at h39; omega
      have hy := mag_one h1l
      have hyg := dd.gt (by omega) 0
      rw [hy] at hyg
      refine AWP.seqk fun K8 hK8 => ?_
      refine AWP.region (AOPS.all (by simp (disch := first|omega|(simp only[ln];omega)) [if_pos, len_Wd (P := Try.prog) #[117] rfl elT117, idf_Wd']; rfl) ?_)
      refine hK8 _ ?_
      refine AWP.seqk fun K9 hK9 => ?_
      refine AWP.seqk fun K10 hK10 => ?_
      refine AWP.region (AOPS.all (by simp (disch := first|omega|(simp only[ln];omega)) [len_Wd (P := Try.prog) #[117] rfl elT117, idf_Wd']; rfl) ?_)
      refine hK10 _ ?_
      refine AWP.block ?_
      refine AWP.loop (fun n s => ∃ (i : Nat) (out : List Int) (r : Int), n = i ∧ i ≤ (mag (a : Int)).length ∧ out.length = (mag (a : Int)).length ∧ Dig 18446744073709551616 out ∧ 0 ≤ r ∧ r < d ∧ val 18446744073709551616 ((mag (a : Int)).drop i) = d * val 18446744073709551616 (out.drop i) + r ∧ s.env 0 = Wd .u64 (mag (a : Int)) ∧ s.env 1 = Wd .u64 (mag (d : Int)) ∧ s.env 7 = .osl nx 0 (mag (a : Int)).length ∧ s.env 8 = .int .u64 r ∧ s.env 9 = .int .i64 ((i : Int) - 1) ∧ s.heap nx = some (1, wd .u64 out) ∧ s.nt = 326) ((mag (a : Int)).length) (⟨(mag (a : Int)).length, List.replicate (mag (a : Int)).length 0, 0, rfl, by omega, by simp, Dig.replicate _ (by omega) (by omega), by omega, by omega, by rw [List.drop_of_length_le (by omega), List.drop_of_length_le (by simp)]; simp [val], by simp, by simp, by simp, by simp, by simp, by simp, rfl⟩) ?_
      rintro n ⟨e, H, m, nt⟩ ⟨i, out, r, rfl, hi, ho, dO, hr0, hr, hv, g0, g1, g7, g8, g9, hH, rfl⟩
      simp only [] at g0 g1 g7 g8 g9 hH
      refine AWP.seqk fun K11 hK11 => ?_
      refine AWP.seqk fun K12 hK12 => ?_
      refine AWP.region (AOPS.all (by simp (disch := first|omega|(simp only[ln];omega)) [idf_Wd', g9]; rfl) ?_)
      refine hK12 _ ?_
      refine cond_ok _ (by simp (disch := first|omega|(simp only[ln];omega)); rfl) (fun h47 => ?_) (fun h47 => ?_)
      · try simp only [decide_eq_true_eq, decide_eq_false_iff_not] at h47
        obtain ⟨i, rfl⟩ : ∃ k, n = k + 1 := ⟨n - 1, by omega⟩
        have e9 : ((i + 1 : Nat) : Int) - 1 = i := by omega
        rw [e9] at g9
        have ga := da.gt (by omega) i
        have st := div1_step da dO (by omega) hr0 hr hv
        refine AWP.skip ?_
        refine hK11 _ ?_
        refine AWP.seqk fun K13 hK13 => ?_
        refine AWP.block ?_
        refine AWP.old fun hold => ?_
        refine AWP.draw 15 Try.checked.mixed (by kernel_rfl) (by simp) ?_
        simp only [List.take_succ_cons, List.take_zero, List.drop_succ_cons, List.drop_zero]
        refine DP.runFk 10 (by simp (disch := first|omega|(simp only[ln];omega)) [runDf.eq_def, runF1, runF2, stepF.eq_def, updo.eq_def, hupo.eq_def, opSto1.eq_def, List.take_succ_cons, List.take_zero, idx_WdD (P := Try.prog) elT117 szT24, if_pos, idf_Wd', g0, g1, g7, g8, g9, hH, ho, hy, h1l, ld_ip agT24]; rfl) fun fs14 hfs14 => ?_
        replace hfs14 : fs14.length = 10 := hfs14.trans rfl
        simp only [List.drop_succ_cons, List.drop_zero]
        refine DP.fcall (div64_fc (hi := r) (lo := gt (mag (a : Int)) i) (y0 := d) hr0 hr ga.1 ga.2 (by omega)) rfl rfl rfl hb214 (by simp (disch := first|omega|(simp only[ln];omega)) [idf_Wd', g0, g1, g7, g8, g9, hH, ho, hy, h1l, ld_ip agT24]) (by simp (disch := first|omega|(simp only[ln];omega)) [g0, g1, g7, g8, g9, hH, ho, hy, h1l, ld_ip agT24]) (by simp) ?_
        simp only [updo]
        refine DP.runFk 2 (by simp (disch := first|omega|(simp only[ln];omega)) [runDf.eq_def, runF1, runF2, stepF.eq_def, updo.eq_def, hupo.eq_def, opSto1.eq_def, List.take_succ_cons, List.take_zero, idx_WdD (P := Try.prog) elT117 szT24, if_pos, idf_Wd', g0, g1, g7, g8, g9, hH, ho, hy, h1l, ld_ip agT24]; rfl) fun fs15 hfs15 => ?_
        replace hfs15 : fs15.length = 2 := hfs15.trans rfl
        simp only [List.drop_succ_cons, List.drop_zero]
        refine DP.runF1q (by simp (disch := first|omega|(simp only[ln];omega)) [runDf.eq_def, runF1, runF2, stepF.eq_def, updo.eq_def, hupo.eq_def, opSto1.eq_def, idx_WdD (P := Try.prog) elT117 szT24, if_pos, idf_Wd', g0, g1, g7, g8, g9, hH, ho, hy, h1l, ld_ip agT24]; rfl) fun fq16 hfq16 => ?_
        replace hfq16 : fq16.q = [] := by rw [hfq16]; simp [qids, asksB, Op.operands, topId]
        simp only [updo]
        refine DP.runFk 1 (by simp (disch := first|omega|(simp only[ln];omega)) [runDf.eq_def, runF1, runF2, stepF.eq_def, updo.eq_def, hupo.eq_def, opSto1.eq_def, List.take_succ_cons, List.take_zero, idx_WdD (P := Try.prog) elT117 szT24, if_pos, idf_Wd', g0, g1, g7, g8, g9, hH, ho, hy, h1l, ld_ip agT24]; rfl) fun fs17 hfs17 => ?_
        replace hfs17 : fs17.length = 1 := hfs17.trans rfl
        simp only [List.drop_succ_cons, List.drop_zero]
        refine DQ.runG (m := 15) [13] (by simp only [List.length_append, List.length_cons, List.length_nil, hfs14, hfs15, hfs17]; omega) (by intro k f hk hex; simp only [List.mem_cons, List.not_mem_nil, or_false] at hex; rcases hex with rfl <;> (simp [List.getElem?_append, hfs14, hfs15, hfs17] at hk; subst hk; assumption)) _ _ _ (fun id q h j hj => by have := hold id q h; simp at hj; omega) (by kernel_rfl) rfl (by simp (disch := first|omega|(simp only[ln];omega)) [runDf.eq_def, runF1, runF2, stepF.eq_def, updo.eq_def, hupo.eq_def, opSto1.eq_def, idx_WdD (P := Try.prog) elT117 szT24, if_pos, idf_Wd', g0, g1, g7, g8, g9, hH, ho, hy, h1l, ld_ip agT24]; rfl) ?_
        refine hK13 _ ?_
        refine AWP.region (AOPS.all (by simp (disch := first|omega|(simp only[ln];omega)) [idf_Wd', g9]; rfl) ?_)
        refine ⟨i, by omega, i, out.set i ((r * 18446744073709551616 + gt (mag (a : Int)) i) / d), (r * 18446744073709551616 + gt (mag (a : Int)) i) % d, rfl, by omega, by simp [ho], dO.set _ st.1 st.2.1, st.2.2.1, st.2.2.2.1, st.2.2.2.2, by simp [g0], by simp [g1], by simp [g7], by simp, by simp [g9], by simp, rfl⟩
      · try simp only [decide_eq_true_eq, decide_eq_false_iff_not] at h47
        obtain rfl : n = 0 := by omega
        obtain ⟨f1, f2⟩ := div1_fin hr0 hr hv
        have hr1 : Dig 18446744073709551616 [r] := Dig.cons hr0 (by omega) (Dig.nil _)
        have t1 : trimW out = mag ((a / d : Nat) : Int) := by rw [mag_of dO, f1]
        have t2 : trimW [r] = mag ((a % d : Nat) : Int) := by rw [mag_of hr1]; simp only [val, Int.mul_zero, Int.add_zero]; rw [f2]
        refine AWP.exit ?_
        refine hK9 _ ?_
        refine AWP.seqk fun K18 hK18 => ?_
        refine AWP.region ?_
        refine AOPS.runk 1 (by simp (disch := first|omega|(simp only[ln];omega)) [List.take_succ_cons, List.take_zero, idf_Wd', g7, g8]; rfl) ?_
        simp only [List.drop_succ_cons, List.drop_zero]
        refine AOPS.frz1 65 nx 1 (wd .u64 out) (Wd .u64 out) (by simp [hH]) (by simp [g7, ← ho]; first | exact fz_wd rfl | exact isl_take_wd (Nat.le_refl _)) ?_
        refine AOPS.fcall (trim_fc out (by omega)) rfl rfl rfl hb176 (by simp (disch := first|omega|(simp only[ln];omega)) [idf_Wd', g7, g8]) (by simp (disch := first|omega|(simp only[ln];omega)) [g7, g8]) (by simp) ?_
        simp only [puts_some, updo]
        refine AOPS.runk 2 (by simp (disch := first|omega|(simp only[ln];omega)) [List.take_succ_cons, List.take_zero, idf_Wd', g7, g8]; rfl) ?_
        simp only [List.drop_succ_cons, List.drop_zero]
        refine AOPS.frz1 68 m 1 (wd .u64 [r]) (Wd .u64 [r]) (by simp) (by simp; first | exact fz_wd rfl | exact isl_take_wd (by simp)) ?_
        refine AOPS.fcall (trim_fc [r] (by simp)) rfl rfl rfl hb176 (by simp (disch := first|omega|(simp only[ln];omega)) [idf_Wd', g7, g8]) (by simp (disch := first|omega|(simp only[ln];omega)) [g7, g8]) (by simp) ?_
        simp only [puts_some, updo]
        refine AOPS.all (by simp (disch := first|omega|(simp only[ln];omega)) [idf_Wd', g7, g8]; rfl) ?_
        refine hK18 _ ?_
        refine AWP.ret ?_
        exact hK _ _ _ _ trivial ((Fin.mk (r := .tup [Wd .u64 (trimW out), Wd .u64 (trimW [r])]) (by simp [aRes, aResL, aRes1, idf_Wd'])).cast (by rw [t1, t2]))
    · try simp only [decide_eq_true_eq, decide_eq_false_iff_not] at h39
      have h1l : (mag (d : Int)).length ≠ 1 := by simp at h39; omega
      obtain ⟨m, hm⟩ : ∃ m, (mag (d : Int)).length = m + 2 := ⟨(mag (d : Int)).length - 2, by omega⟩
      obtain ⟨t, k, p, Vl, ht, htB, hbl, hk, rfl, hp0, hVl, dV, lV, vV, tV, hVB, _, hK0⟩ := dw_init had hm
      obtain ⟨J, hJ⟩ : ∃ J, (mag (a : Int)).length = J + (m + 2) := ⟨(mag (a : Int)).length - (m + 2), by omega⟩
      rw [hJ, Nat.add_sub_cancel] at hK0
      obtain ⟨n, hn⟩ : ∃ n, n = m + 2 := ⟨_, rfl⟩
      have hp1 : (1 : Int) ≤ 2 ^ k := by omega
      have hsa := shS_len da hp1 (Nat.le_refl (mag (a : Int)).length)
      have hsd := shS_len dd hp1 (Nat.le_refl (mag (d : Int)).length)
      have hsa' : (shW (mag (a : Int)) (2 ^ k)).length = J + n + 1 := by unfold shW; omega
      have hsd' : (shW (mag (d : Int)) (2 ^ k)).length = n + 1 := by unfold shW; omega
      have x4 : TN (((n : Int) - 1).toNat) (m + 1) := TN.i (by omega)
      have x5 : TN (((n : Int) - 2).toNat) (m) := TN.i (by omega)
      have hdn : (mag (d : Int)).length = n := by omega
      have han : (mag (a : Int)).length = J + n := by omega
      have eJ : ((J + n : Nat) : Int) - (n : Int) = J := by omega
      have eJ2 : (J : Int) + (n : Int) - (n : Int) = J := by omega
      have eJ3 : TN (((J : Int) + 1).toNat) (J + 1) := TN.i (by omega)
      have wb : (64 : Int) - (bitLen t : Int) = k := by omega
      rw [← hn] at lV
      have hPm := powB_pos m
      have c64 : (k : Int) ≤ 64 := by omega
      have hmk : TN (min k 64) (k) := TN.i (by omega)
      have hmk2 : TN (min (64 - k) 64) (64 - k) := TN.i (by omega)
      have fdk : ∀ x : Int, x.fdiv (2 ^ k) = x / 2 ^ k := fun x => Int.fdiv_eq_ediv_of_nonneg _ (Int.le_of_lt hp0)
      refine AWP.skip ?_
      refine hK6 _ ?_
      refine AWP.seqk fun K19 hK19 => ?_
      refine AWP.region ?_
      refine AOPS.runk 5 (by simp (disch := first|omega|(simp only[ln];omega)) [List.take_succ_cons, List.take_zero, idx_WdD (P := Try.prog) elT117 szT24, if_pos, idf_Wd', hdn, x4.e, ht, wb, ld_ip agT24]; rfl) ?_
      simp only [List.drop_succ_cons, List.drop_zero]
      refine AOPS.fcall (lz64_fc t htB) rfl rfl rfl hb171 (by simp (disch := first|omega|(simp only[ln];omega)) [idf_Wd', hdn, x4.e, ht, wb, ld_ip agT24]) (by simp (disch := first|omega|(simp only[ln];omega)) [hdn, x4.e, ht, wb, ld_ip agT24]) (by simp) ?_
      simp only [puts_some, updo]
      refine AOPS.all (by simp (disch := first|omega|(simp only[ln];omega)) [idx_WdD (P := Try.prog) elT117 szT24, if_pos, idf_Wd', hdn, x4.e, ht, wb, ld_ip agT24]; rfl) ?_
      refine hK19 _ ?_
      refine AWP.seqk fun K20 hK20 => ?_
      refine AWP.draw 8 Try.checked.mixed (by kernel_rfl) (by simp) ?_
      simp only [List.take_succ_cons, List.take_zero, List.drop_succ_cons, List.drop_zero]
      refine DP.runFk 2 (by simp (disch := first|omega|(simp only[ln];omega)) [runDf.eq_def, runF1, runF2, stepF.eq_def, updo.eq_def, hupo.eq_def, opSto1.eq_def, List.take_succ_cons, List.take_zero, if_pos, idf_Wd', hsa', hsd', wd_len]; rfl) fun fs21 hfs21 => ?_
      replace hfs21 : fs21.length = 2 := hfs21.trans rfl
      simp only [List.drop_succ_cons, List.drop_zero]
      refine DP.ocall (shifted_fo (mag (d : Int)) k dd hk (by omega)) rfl rfl rfl hb215 (by simp (disch := first|omega|(simp only[ln];omega)) [idf_Wd', hsa', hsd', wd_len]) (by simp (disch := first|omega|(simp only[ln];omega)) [hsa', hsd', wd_len]) (by simp) ?_
      simp only [updo]
      refine DP.runFk 4 (by simp (disch := first|omega|(simp only[ln];omega)) [runDf.eq_def, runF1, runF2, stepF.eq_def, updo.eq_def, hupo.eq_def, opSto1.eq_def, List.take_succ_cons, List.take_zero, if_pos, idf_Wd', hsa', hsd', wd_len]; rfl) fun fs22 hfs22 => ?_
      replace hfs22 : fs22.length = 4 := hfs22.trans rfl
      simp only [List.drop_succ_cons, List.drop_zero]
      refine DP.ocall (shifted_fo (mag (a : Int)) k da hk (by omega)) rfl rfl rfl hb215 (by simp (disch := first|omega|(simp only[ln];omega)) [idf_Wd', hsa', hsd', wd_len]) (by simp (disch := first|omega|(simp only[ln];omega)) [hsa', hsd', wd_len]) (by simp) ?_
      simp only [updo]
      refine DQ.runF (m := 8) (by simp only [List.length_append, List.length_cons, List.length_nil, hfs21, hfs22]; omega) _ _ _ (by kernel_rfl) rfl (by simp (disch := first|omega|(simp only[ln];omega)) [runDf.eq_def, runF1, runF2, stepF.eq_def, updo.eq_def, hupo.eq_def, opSto1.eq_def, if_pos, idf_Wd', hsa', hsd', wd_len]; rfl) ?_
      refine hK20 _ ?_
      refine AWP.seqk fun K23 hK23 => ?_
      refine AWP.frz1 11 (nx + 2) 1 (wd .u64 (shW (mag (d : Int)) (2 ^ k))) (Wd .u64 Vl) (by simp (disch := omega)) (by simp; rw [fz_wdt (by omega), hVl, hn]) ?_
      refine AWP.region (AOPS.all (by simp (disch := first|omega|(simp only[ln];omega)) [if_pos, len_Wd (P := Try.prog) #[117] rfl elT117, idf_Wd', han, eJ, eJ2]; rfl) ?_)
      refine hK23 _ ?_
      refine AWP.seqk fun K24 hK24 => ?_
      refine AWP.seqk fun K25 hK25 => ?_
      refine AWP.region (AOPS.all (by simp (disch := first|omega|(simp only[ln];omega)) [len_Wd (P := Try.prog) #[117] rfl elT117, idf_Wd', han, eJ, eJ2]; rfl) ?_)
      refine hK25 _ ?_
      refine AWP.block ?_
      obtain ⟨iu, hiu⟩ : ∃ iu, iu = nx + 7 := ⟨_, rfl⟩
      obtain ⟨io, hio⟩ : ∃ io, io = nx + 10 := ⟨_, rfl⟩
      have hne : iu ≠ io := by omega
      refine AWP.loop (fun N s => ∃ (j : Nat) (u out : List Int), N = j ∧ j ≤ J + 1 ∧ Kn ((a : Int) * 2 ^ k) ((d : Int) * 2 ^ k) u out j ∧ u.length = J + n + 1 ∧ out.length = J + 1 ∧ s.env 6 = .int .i64 (n : Int) ∧ s.env 10 = .int .i64 (k : Int) ∧ s.env 11 = Wd .u64 Vl ∧ s.env 12 = .osl iu 0 (J + n + 1) ∧ s.env 13 = .osl io 0 (J + 1) ∧ s.env 14 = .int .i64 ((j : Int) - 1) ∧ s.heap iu = some (1, wd .u64 u) ∧ s.heap io = some (1, wd .u64 out) ∧ s.nt = 326) (J + 1) (⟨J + 1, shW (mag (a : Int)) (2 ^ k), List.replicate (J + 1) 0, rfl, by omega, hK0, hsa', by simp, by simp, by simp, by simp, by simp (disch := omega) [hiu, hsa', wd_len], by simp (disch := omega) [hio, eJ3.e], by simp, by simp (disch := omega) [hiu], by simp (disch := omega) [hio, eJ3.e], rfl⟩) ?_
      clear hcm h34 had hlen hdl h39 h1l hm ht htB hbl tV hJ hsa hsd hsa' hsd' eJ eJ2 eJ3 wb hK0 lb hdn
      rintro N ⟨e, H, mm, nt⟩ ⟨j, u, out, rfl, hj, hKn, hul, hol, h6, h10, h11, h12, h13, h14, hU, hO, rfl⟩
      simp only [] at h6 h10 h11 h12 h13 h14 hU hO
      refine AWP.seqk fun K26 hK26 => ?_
      refine AWP.seqk fun K27 hK27 => ?_
      refine AWP.region (AOPS.all (by simp (disch := first|omega|(simp only[ln];omega)) [idf_Wd', h14]; rfl) ?_)
      refine hK27 _ ?_
      refine cond_ok _ (by simp (disch := first|omega|(simp only[ln];omega)); rfl) (fun h95 => ?_) (fun h95 => ?_)
      · try simp only [decide_eq_true_eq, decide_eq_false_iff_not] at h95
        obtain ⟨j, rfl⟩ : ∃ k, N = k + 1 := ⟨N - 1, by omega⟩
        have e14 : ((j + 1 : Nat) : Int) - 1 = j := by omega
        rw [e14] at h14
        have hz := hKn.top (n := n) (by rw [hn]; exact hVB)
        have hw := win_lt hKn.dig (j := j) (m := m) (by rw [← hn]; exact hz)
        have hwd := hKn.wide
        have tg := top_ge dV (m := m)
        rw [vV] at tg
        have g1 := hKn.dig.gt (by omega) (j + m + 2)
        have g2 := hKn.dig.gt (by omega) (j + m + 1)
        have g3 := hKn.dig.gt (by omega) (j + m)
        have gv1 := dV.gt (by omega) (m + 1)
        have gv2 := dV.gt (by omega) m
        have x1 : TN (((j : Int) + (n : Int)).toNat) (j + m + 2) := TN.i (by omega)
        have x2 : TN (((j : Int) + (n : Int) - 1).toNat) (j + m + 1) := TN.i (by omega)
        have x3 : TN (((j : Int) + (n : Int) - 2).toNat) (j + m) := TN.i (by omega)
        have x7 : TN (((j : Int) + (n : Int)).toNat) (j + n) := TN.i (by omega)
        have hjo : j < J + 1 := by omega
        have hW0 := val_nonneg (hKn.dig.drop j)
        refine AWP.skip ?_
        refine hK26 _ ?_
        refine AWP.seqk fun K28 hK28 => ?_
        refine AWP.block ?_
        refine AWP.seqk fun K29 hK29 => ?_
        refine AWP.region (AOPS.all (by simp (disch := first|omega|(simp only[ln];omega)) [idf_Wd']; rfl) ?_)
        refine hK29 _ ?_
        refine AWP.seqk fun K30 hK30 => ?_
        have J30 : ∀ s : St, (∃ q : Int, 0 ≤ q ∧ q < 18446744073709551616 ∧ val 18446744073709551616 (u.drop j) < (q + 1) * ((d : Int) * 2 ^ k) ∧ s.env 6 = .int .i64 (n : Int) ∧ s.env 10 = .int .i64 (k : Int) ∧ s.env 11 = Wd .u64 Vl ∧ s.env 12 = .osl iu 0 (J + n + 1) ∧ s.env 13 = .osl io 0 (J + 1) ∧ s.env 14 = .int .i64 (j : Int) ∧ s.env 15 = .int .u64 q ∧ s.heap iu = some (1, wd .u64 u) ∧ s.heap io = some (1, wd .u64 out) ∧ s.nt = 326) → K30 s := by
          clear h6 h10 h11 h12 h13 h14 hU hO hw hwd tg g1 g2 g3 gv1 gv2
          rintro ⟨e, H, mm, nt⟩ ⟨q, q0, qB, qlt, h6, h10, h11, h12, h13, h14, h15, hU, hO, rfl⟩
          simp only [] at h6 h10 h11 h12 h13 h14 h15 hU hO
          refine hK30 _ ?_
          refine AWP.seqk fun K31 hK31 => ?_
          refine AWP.region (AOPS.all (by simp (disch := first|omega|(simp only[ln];omega)) [idf_Wd']; rfl) ?_)
          refine hK31 _ ?_
          refine AWP.seqk fun K32 hK32 => ?_
          refine AWP.seqk fun K33 hK33 => ?_
          refine AWP.region (AOPS.all (by simp (disch := first|omega|(simp only[ln];omega)) [idf_Wd', h6]; rfl) ?_)
          refine hK33 _ ?_
          refine AWP.block ?_
          refine AWP.loop (fun N s => ∃ (i : Nat) (u1 : List Int) (br c : Int), N = n - i ∧ i ≤ n ∧ Win u u1 j n (-(q * val 18446744073709551616 (Vl.take i)) + (18446744073709551616 : Int) ^ i * (br + c)) ∧ 0 ≤ br ∧ br ≤ 1 ∧ 0 ≤ c ∧ c < 18446744073709551616 ∧ s.env 6 = .int .i64 (n : Int) ∧ s.env 10 = .int .i64 (k : Int) ∧ s.env 11 = Wd .u64 Vl ∧ s.env 12 = .osl iu 0 (J + n + 1) ∧ s.env 13 = .osl io 0 (J + 1) ∧ s.env 14 = .int .i64 (j : Int) ∧ s.env 15 = .int .u64 q ∧ s.env 20 = .int .u64 br ∧ s.env 21 = .int .u64 c ∧ s.env 175 = .int .i64 (n : Int) ∧ s.env 176 = .int .i64 (i : Int) ∧ s.heap iu = some (1, wd .u64 u1) ∧ s.heap io = some (1, wd .u64 out) ∧ s.nt = 326) (n) (⟨0, u, 0, 0, by omega, by omega, (Win.refl hKn.dig j n).cast (by simp [val]), by omega, by omega, by omega, by omega, by simp [h6], by simp [h10], by simp [h11], by simp [h12], by simp [h13], by simp [h14], by simp [h15], by simp, by simp, by simp, by simp, by simp (disch := omega) [hU], by simp (disch := omega) [hO], rfl⟩) ?_
          clear h6 h10 h11 h12 h13 h14 h15 hU hO
          rintro N ⟨e, H, mm, nt⟩ ⟨i, u1, br, c, rfl, hi, w, br0, br1, c0, cB, h6, h10, h11, h12, h13, h14, h15, h20, h21, h175, h176, hU, hO, rfl⟩
          simp only [] at h6 h10 h11 h12 h13 h14 h15 h20 h21 h175 h176 hU hO
          have hu1 : u1.length = J + n + 1 := w.len.trans hul
          refine AWP.seqk fun K34 hK34 => ?_
          refine AWP.region (AOPS.all (by simp (disch := first|omega|(simp only[ln];omega)) [idf_Wd', h175, h176]; rfl) ?_)
          refine hK34 _ ?_
          refine AWP.seqk fun K35 hK35 => ?_
          refine cond_ok _ (by simp (disch := first|omega|(simp only[ln];omega)); rfl) (fun h177 => ?_) (fun h177 => ?_)
          · try simp only [decide_eq_true_eq, decide_eq_false_iff_not] at h177
            have hi' : i < n := by omega
            have ws := win_sub w hi (by omega) dV q0 qB br0 br1 c0 cB
            have gvi := dV.gt (by omega) i
            have gui := w.dig.gt (by omega) (j + i)
            have x6 : TN (((j : Int) + (i : Int)).toNat) (j + i) := TN.i (by omega)
            have wm0 := ws.1
            have wm1 := ws.2.1
            have wm2 := ws.2.2.1
            refine AWP.skip ?_
            refine hK35 _ ?_
            refine AWP.seqk fun K36 hK36 => ?_
            refine AWP.block ?_
            refine AWP.seqk fun K37 hK37 => ?_
            refine AWP.region (AOPS.all (by simp (disch := first|omega|(simp only[ln];omega)) [idf_Wd', h176]; rfl) ?_)
            refine hK37 _ ?_
            refine AWP.seqk fun K38 hK38 => ?_
            refine AWP.region ?_
            refine AOPS.runk 5 (by simp (disch := first|omega|(simp only[ln];omega)) [List.take_succ_cons, List.take_zero, idx_WdD (P := Try.prog) elT117 szT24, if_pos, idf_Wd', h11, h15, lV, ld_ip agT24]; rfl) ?_
            simp only [List.drop_succ_cons, List.drop_zero]
            refine AOPS.fcall (mul64_fc q (gt Vl i) q0 qB gvi.1 gvi.2) rfl rfl rfl hb177 (by simp (disch := first|omega|(simp only[ln];omega)) [idf_Wd', h11, h15, lV, ld_ip agT24]) (by simp (disch := first|omega|(simp only[ln];omega)) [h11, h15, lV, ld_ip agT24]) (by simp) ?_
            simp only [puts_some, updo]
            refine AOPS.all (by simp (disch := first|omega|(simp only[ln];omega)) [idx_WdD (P := Try.prog) elT117 szT24, if_pos, idf_Wd', h11, h15, lV, ld_ip agT24]; rfl) ?_
            refine hK38 _ ?_
            refine AWP.seqk fun K39 hK39 => ?_
            refine AWP.region (AOPS.all (by simp (disch := first|omega|(simp only[ln];omega)) [idf_Wd']; rfl) ?_)
            refine hK39 _ ?_
            refine AWP.seqk fun K40 hK40 => ?_
            refine AWP.region ?_
            refine AOPS.runk 2 (by simp (disch := first|omega|(simp only[ln];omega)) [List.take_succ_cons, List.take_zero, idf_Wd', h21]; rfl) ?_
            simp only [List.drop_succ_cons, List.drop_zero]
            refine AOPS.ecall (FE.add64 nb178 (q * gt Vl i % 18446744073709551616) c 0 (by omega) c0 (by omega) (by omega)) rfl rfl rfl (by simp (disch := first|omega|(simp only[ln];omega)) [idf_Wd', h21]) (by simp (disch := first|omega|(simp only[ln];omega)) [h21]) (by simp) ?_
            simp only [puts_some, updo]
            refine AOPS.all (by simp (disch := first|omega|(simp only[ln];omega)) [idf_Wd', h21]; rfl) ?_
            refine hK40 _ ?_
            refine AWP.seqk fun K41 hK41 => ?_
            refine AWP.region (AOPS.all (by simp (disch := first|omega|(simp only[ln];omega)) [idf_Wd']; rfl) ?_)
            refine hK41 _ ?_
            refine AWP.region ?_
            refine AOPS.runk 12 (by simp (disch := first|omega|(simp only[ln];omega)) [List.take_succ_cons, List.take_zero, idx_WdD (P := Try.prog) elT117 szT24, if_pos, idf_Wd', h12, h14, h20, hU, x6.e, hu1, ld_ip agT24]; rfl) ?_
            simp only [List.drop_succ_cons, List.drop_zero]
            refine AOPS.ecall (FE.sub64 nb216 (gt u1 (j + i)) ((q * gt Vl i % 18446744073709551616 + c) % 18446744073709551616) br gui.1 (Int.emod_nonneg _ (by omega)) (Int.emod_lt_of_pos _ (by omega)) br0 br1) rfl rfl rfl (by simp (disch := first|omega|(simp only[ln];omega)) [idf_Wd', h12, h14, h20, hU, x6.e, hu1, ld_ip agT24]) (by simp (disch := first|omega|(simp only[ln];omega)) [h12, h14, h20, hU, x6.e, hu1, ld_ip agT24]) (by simp) ?_
            simp only [puts_some, updo]
            refine AOPS.all (by simp (disch := first|omega|(simp only[ln];omega)) [idx_WdD (P := Try.prog) elT117 szT24, if_pos, idf_Wd', h12, h14, h20, hU, x6.e, hu1, ld_ip agT24]; rfl) ?_
            refine hK36 _ ?_
            refine AWP.region (AOPS.all (by simp (disch := first|omega|(simp only[ln];omega)) [idf_Wd', h176]; rfl) ?_)
            refine ⟨n - (i + 1), by omega, i + 1, u1.set (j + i) ((gt u1 (j + i) - (q * gt Vl i % 18446744073709551616 + c) % 18446744073709551616 - br) % 18446744073709551616), _, _, rfl, by omega, ws.2.2.2, by split <;> omega, by split <;> omega, ws.2.1, ws.2.2.1, by simp [h6], by simp [h10], by simp [h11], by simp [h12], by simp [h13], by simp [h14], by simp [h15], by simp, by simp, by simp [h175], by simp (disch := omega) [h176], by simp (disch := omega) [hU], by simp (disch := omega) [hO], rfl⟩
          · try simp only [decide_eq_true_eq, decide_eq_false_iff_not] at h177
            have hin : i = n := by omega
            rw [hin, val_take_all (by omega), vV] at w
            have wl := win_sub_last w (by omega) br0 br1 c0 cB
            have gun := w.dig.gt (by omega) (j + n)
            refine AWP.exit ?_
            refine hK32 _ ?_
            refine AWP.seqk fun K42 hK42 => ?_
            refine AWP.region ?_
            refine AOPS.runk 12 (by simp (disch := first|omega|(simp only[ln];omega)) [List.take_succ_cons, List.take_zero, idx_WdD (P := Try.prog) elT117 szT24, if_pos, idf_Wd', h6, h12, h14, h20, h21, hU, x7.e, hu1, ld_ip agT24]; rfl) ?_
            simp only [List.drop_succ_cons, List.drop_zero]
            refine AOPS.ecall (FE.sub64 nb216 (gt u1 (j + n)) c br gun.1 c0 cB br0 br1) rfl rfl rfl (by simp (disch := first|omega|(simp only[ln];omega)) [idf_Wd', h6, h12, h14, h20, h21, hU, x7.e, hu1, ld_ip agT24]) (by simp (disch := first|omega|(simp only[ln];omega)) [h6, h12, h14, h20, h21, hU, x7.e, hu1, ld_ip agT24]) (by simp) ?_
            simp only [puts_some, updo]
            refine AOPS.all (by simp (disch := first|omega|(simp only[ln];omega)) [idx_WdD (P := Try.prog) elT117 szT24, if_pos, idf_Wd', h6, h12, h14, h20, h21, hU, x7.e, hu1, ld_ip agT24]; rfl) ?_
            refine hK42 _ ?_
            refine AWP.seqk fun K43 hK43 => ?_
            refine AWP.block ?_
            refine AWP.loop (fun N s => ∃ (q : Int) (u1 : List Int) (br : Int), N = q.toNat ∧ Win u u1 j n (-(q * ((d : Int) * 2 ^ k)) + (18446744073709551616 : Int) ^ (n + 1) * br) ∧ val 18446744073709551616 (u.drop j) < (q + 1) * ((d : Int) * 2 ^ k) ∧ 0 ≤ q ∧ q < 18446744073709551616 ∧ (br = 0 ∨ br = 1) ∧ s.env 6 = .int .i64 (n : Int) ∧ s.env 10 = .int .i64 (k : Int) ∧ s.env 11 = Wd .u64 Vl ∧ s.env 12 = .osl iu 0 (J + n + 1) ∧ s.env 13 = .osl io 0 (J + 1) ∧ s.env 14 = .int .i64 (j : Int) ∧ s.env 15 = .int .u64 q ∧ s.env 20 = .int .u64 br ∧ s.heap iu = some (1, wd .u64 u1) ∧ s.heap io = some (1, wd .u64 out) ∧ s.nt = 326) (q.toNat) (⟨q, u1.set (j + n) ((gt u1 (j + n) - c - br) % 18446744073709551616), (if gt u1 (j + n) < c + br then 1 else 0), rfl, wl, qlt, q0, qB, by split <;> simp, by simp [h6], by simp [h10], by simp [h11], by simp [h12], by simp [h13], by simp [h14], by simp [h15], by simp, by simp (disch := omega) [hU], by simp (disch := omega) [hO], rfl⟩) ?_
            clear h6 h10 h11 h12 h13 h14 h15 h20 h21 h175 h176 hU hO hu1 wl gun w qlt q0 qB
            rintro N ⟨e, H, mm, nt⟩ ⟨q, u1, br, rfl, w, qlt, q0, qB, hbr, h6, h10, h11, h12, h13, h14, h15, h20, hU, hO, rfl⟩
            simp only [] at h6 h10 h11 h12 h13 h14 h15 h20 hU hO
            have hu1 : u1.length = J + n + 1 := w.len.trans hul
            refine AWP.seqk fun K44 hK44 => ?_
            refine AWP.seqk fun K45 hK45 => ?_
            refine AWP.region (AOPS.all (by simp (disch := first|omega|(simp only[ln];omega)) [idf_Wd', h20]; rfl) ?_)
            refine hK45 _ ?_
            refine cond_ok _ (by simp (disch := first|omega|(simp only[ln];omega)); rfl) (fun h233 => ?_) (fun h233 => ?_)
            · try simp only [decide_eq_true_eq, decide_eq_false_iff_not] at h233
              have hb1 : br = 1 := by simpa using h233
              subst hb1
              rw [Int.mul_one] at w
              have wlt := w.lt hz
              have hneg : val 18446744073709551616 (u.drop j) < q * ((d : Int) * 2 ^ k) := by omega
              have hq1 : 1 ≤ q := by
                rcases Int.lt_or_le q 1 with h | h
                · have : q = 0 := by omega
                  subst this; omega
                · exact h
              refine AWP.skip ?_
              refine hK44 _ ?_
              refine AWP.block ?_
              refine AWP.seqk fun K46 hK46 => ?_
              refine AWP.region (AOPS.all (by simp (disch := first|omega|(simp only[ln];omega)) [idf_Wd', h15]; rfl) ?_)
              refine hK46 _ ?_
              refine AWP.seqk fun K47 hK47 => ?_
              refine AWP.region (AOPS.all (by simp (disch := first|omega|(simp only[ln];omega)) [idf_Wd']; rfl) ?_)
              refine hK47 _ ?_
              refine AWP.seqk fun K48 hK48 => ?_
              refine AWP.seqk fun K49 hK49 => ?_
              refine AWP.region (AOPS.all (by simp (disch := first|omega|(simp only[ln];omega)) [idf_Wd', h6]; rfl) ?_)
              refine hK49 _ ?_
              refine AWP.block ?_
              refine AWP.loop (fun N s => ∃ (i : Nat) (u2 : List Int) (c : Int), N = n - i ∧ i ≤ n ∧ Win u u2 j n (-(q * ((d : Int) * 2 ^ k)) + (18446744073709551616 : Int) ^ (n + 1) + val 18446744073709551616 (Vl.take i) - (18446744073709551616 : Int) ^ i * c) ∧ 0 ≤ c ∧ c ≤ 1 ∧ s.env 6 = .int .i64 (n : Int) ∧ s.env 10 = .int .i64 (k : Int) ∧ s.env 11 = Wd .u64 Vl ∧ s.env 12 = .osl iu 0 (J + n + 1) ∧ s.env 13 = .osl io 0 (J + 1) ∧ s.env 14 = .int .i64 (j : Int) ∧ s.env 15 = .int .u64 (q - 1) ∧ s.env 20 = .int .u64 1 ∧ s.env 26 = .int .u64 c ∧ s.env 236 = .int .i64 (n : Int) ∧ s.env 237 = .int .i64 (i : Int) ∧ s.heap iu = some (1, wd .u64 u2) ∧ s.heap io = some (1, wd .u64 out) ∧ s.nt = 326) (n) (⟨0, u1, 0, by omega, by omega, w.cast (by simp [val]), by omega, by omega, by simp [h6], by simp [h10], by simp [h11], by simp [h12], by simp [h13], by simp [h14], by simp, by simp [h20], by simp, by simp, by simp, by simp (disch := omega) [hU], by simp (disch := omega) [hO], rfl⟩) ?_
              clear h6 h10 h11 h12 h13 h14 h15 h20 hU hO hu1
              rintro N ⟨e, H, mm, nt⟩ ⟨i, u2, c, rfl, hi, w2, c0, c1, h6, h10, h11, h12, h13, h14, h15, h20, h26, h236, h237, hU, hO, rfl⟩
              simp only [] at h6 h10 h11 h12 h13 h14 h15 h20 h26 h236 h237 hU hO
              have hu2 : u2.length = J + n + 1 := w2.len.trans hul
              refine AWP.seqk fun K50 hK50 => ?_
              refine AWP.region (AOPS.all (by simp (disch := first|omega|(simp only[ln];omega)) [idf_Wd', h236, h237]; rfl) ?_)
              refine hK50 _ ?_
              refine AWP.seqk fun K51 hK51 => ?_
              refine cond_ok _ (by simp (disch := first|omega|(simp only[ln];omega)); rfl) (fun h238 => ?_) (fun h238 => ?_)
              · try simp only [decide_eq_true_eq, decide_eq_false_iff_not] at h238
                have hi' : i < n := by omega
                have ws := win_add w2 hi (by omega) dV c0 c1
                have gvi := dV.gt (by omega) i
                have gui := w2.dig.gt (by omega) (j + i)
                have x6 : TN (((j : Int) + (i : Int)).toNat) (j + i) := TN.i (by omega)
                refine AWP.skip ?_
                refine hK51 _ ?_
                refine AWP.seqk fun K52 hK52 => ?_
                refine AWP.block ?_
                refine AWP.seqk fun K53 hK53 => ?_
                refine AWP.region (AOPS.all (by simp (disch := first|omega|(simp only[ln];omega)) [idf_Wd', h237]; rfl) ?_)
                refine hK53 _ ?_
                refine AWP.old fun hold => ?_
                refine AWP.draw 20 Try.checked.mixed (by kernel_rfl) (by simp) ?_
                simp only [List.take_succ_cons, List.take_zero, List.drop_succ_cons, List.drop_zero]
                refine DP.runFk 15 (by simp (disch := first|omega|(simp only[ln];omega)) [runDf.eq_def, runF1, runF2, stepF.eq_def, updo.eq_def, hupo.eq_def, opSto1.eq_def, List.take_succ_cons, List.take_zero, idx_WdD (P := Try.prog) elT117 szT24, if_pos, idf_Wd', h11, h12, h14, h26, hU, x6.e, hu2, lV, ld_ip agT24]; rfl) fun fs54 hfs54 => ?_
                replace hfs54 : fs54.length = 15 := hfs54.trans rfl
                simp only [List.drop_succ_cons, List.drop_zero]
                refine DP.ecall (FE.add64 nb178 (gt u2 (j + i)) (gt Vl i) c gui.1 gvi.1 c0 c1) rfl rfl rfl (by simp (disch := first|omega|(simp only[ln];omega)) [idf_Wd', h11, h12, h14, h26, hU, x6.e, hu2, lV, ld_ip agT24]) (by simp (disch := first|omega|(simp only[ln];omega)) [h11, h12, h14, h26, hU, x6.e, hu2, lV, ld_ip agT24]) (by simp) ?_
                simp only [updo]
                refine DP.runFk 2 (by simp (disch := first|omega|(simp only[ln];omega)) [runDf.eq_def, runF1, runF2, stepF.eq_def, updo.eq_def, hupo.eq_def, opSto1.eq_def, List.take_succ_cons, List.take_zero, idx_WdD (P := Try.prog) elT117 szT24, if_pos, idf_Wd', h11, h12, h14, h26, hU, x6.e, hu2, lV, ld_ip agT24]; rfl) fun fs55 hfs55 => ?_
                replace hfs55 : fs55.length = 2 := hfs55.trans rfl
                simp only [List.drop_succ_cons, List.drop_zero]
                refine DP.runF1q (by simp (disch := first|omega|(simp only[ln];omega)) [runDf.eq_def, runF1, runF2, stepF.eq_def, updo.eq_def, hupo.eq_def, opSto1.eq_def, idx_WdD (P := Try.prog) elT117 szT24, if_pos, idf_Wd', h11, h12, h14, h26, hU, x6.e, hu2, lV, ld_ip agT24]; rfl) fun fq56 hfq56 => ?_
                replace hfq56 : fq56.q = [] := by rw [hfq56]; simp [qids, asksB, Op.operands, topId]
                simp only [updo]
                refine DP.runFk 1 (by simp (disch := first|omega|(simp only[ln];omega)) [runDf.eq_def, runF1, runF2, stepF.eq_def, updo.eq_def, hupo.eq_def, opSto1.eq_def, List.take_succ_cons, List.take_zero, idx_WdD (P := Try.prog) elT117 szT24, if_pos, idf_Wd', h11, h12, h14, h26, hU, x6.e, hu2, lV, ld_ip agT24]; rfl) fun fs57 hfs57 => ?_
                replace hfs57 : fs57.length = 1 := hfs57.trans rfl
                simp only [List.drop_succ_cons, List.drop_zero]
                refine DQ.runG (m := 20) [18] (by simp only [List.length_append, List.length_cons, List.length_nil, hfs54, hfs55, hfs57]; omega) (by intro k f hk hex; simp only [List.mem_cons, List.not_mem_nil, or_false] at hex; rcases hex with rfl <;> (simp [List.getElem?_append, hfs54, hfs55, hfs57] at hk; subst hk; assumption)) _ _ _ (fun id q h j hj => by have := hold id q h; simp at hj; omega) (by kernel_rfl) rfl (by simp (disch := first|omega|(simp only[ln];omega)) [runDf.eq_def, runF1, runF2, stepF.eq_def, updo.eq_def, hupo.eq_def, opSto1.eq_def, idx_WdD (P := Try.prog) elT117 szT24, if_pos, idf_Wd', h11, h12, h14, h26, hU, x6.e, hu2, lV, ld_ip agT24]; rfl) ?_
                refine hK52 _ ?_
                refine AWP.region (AOPS.all (by simp (disch := first|omega|(simp only[ln];omega)) [idf_Wd', h237]; rfl) ?_)
                refine ⟨n - (i + 1), by omega, i + 1, u2.set (j + i) ((gt u2 (j + i) + gt Vl i + c) % 18446744073709551616), (gt u2 (j + i) + gt Vl i + c) / 18446744073709551616, rfl, by omega, ws.2.2, ws.1, ws.2.1, by simp [h6], by simp [h10], by simp [h11], by simp [h12], by simp [h13], by simp [h14], by simp [h15], by simp [h20], by simp, by simp [h236], by simp (disch := omega) [h237], by simp (disch := omega) [hU], by simp (disch := omega) [hO], rfl⟩
              · try simp only [decide_eq_true_eq, decide_eq_false_iff_not] at h238
                have hin : i = n := by omega
                rw [hin, val_take_all (by omega), vV] at w2
                have wl := win_add_last w2 (by omega) c0 c1
                have gun := w2.dig.gt (by omega) (j + n)
                have wl0 := wl.1
                have wl1 := wl.2.1
                refine AWP.exit ?_
                refine hK48 _ ?_
                refine AWP.seqk fun K58 hK58 => ?_
                refine AWP.region ?_
                refine AOPS.runk 11 (by simp (disch := first|omega|(simp only[ln];omega)) [List.take_succ_cons, List.take_zero, idx_WdD (P := Try.prog) elT117 szT24, if_pos, idf_Wd', h6, h12, h14, h26, hU, x7.e, hu2, ld_ip agT24]; rfl) ?_
                simp only [List.drop_succ_cons, List.drop_zero]
                refine AOPS.ecall (FE.add64 nb178 (gt u2 (j + n)) 0 c gun.1 (by omega) c0 c1) rfl rfl rfl (by simp (disch := first|omega|(simp only[ln];omega)) [idf_Wd', h6, h12, h14, h26, hU, x7.e, hu2, ld_ip agT24]) (by simp (disch := first|omega|(simp only[ln];omega)) [h6, h12, h14, h26, hU, x7.e, hu2, ld_ip agT24]) (by simp) ?_
                simp only [puts_some, updo]
                refine AOPS.all (by simp (disch := first|omega|(simp only[ln];omega)) [idx_WdD (P := Try.prog) elT117 szT24, if_pos, idf_Wd', h6, h12, h14, h26, hU, x7.e, hu2, ld_ip agT24]; rfl) ?_
                refine hK58 _ ?_
                refine AWP.region (AOPS.all (by simp (disch := first|omega|(simp only[ln];omega)) [idf_Wd', h20]; rfl) ?_)
                refine ⟨(q - 1).toNat, by omega, q - 1, u2.set (j + n) ((gt u2 (j + n) + c) % 18446744073709551616), 1 - (gt u2 (j + n) + c) / 18446744073709551616, rfl, wl.2.2.cast (ab_cast _ _ _ _), by rw [show q - 1 + 1 = q by omega]; exact hneg, by omega, by omega, by omega, by simp [h6], by simp [h10], by simp [h11], by simp [h12], by simp [h13], by simp [h14], by simp [h15], by simp, by simp (disch := omega) [hU], by simp (disch := omega) [hO], rfl⟩
            · try simp only [decide_eq_true_eq, decide_eq_false_iff_not] at h233
              have hb0 : br = 0 := by simp at h233; omega
              subst hb0
              rw [Int.mul_zero, Int.add_zero] at w
              refine AWP.exit ?_
              refine hK43 _ ?_
              refine AWP.region (AOPS.all (by simp (disch := first|omega|(simp only[ln];omega)) [idx_WdD (P := Try.prog) elT117 szT24, if_pos, idf_Wd', h13, h14, h15, hO, hol]; rfl) ?_)
              refine hK28 _ ?_
              refine AWP.region (AOPS.all (by simp (disch := first|omega|(simp only[ln];omega)) [idf_Wd', h14]; rfl) ?_)
              refine ⟨j, by omega, j, u1, out.set j q, rfl, by omega, hKn.step (n := n) w q0 qB qlt (by omega), w.len.trans hul, by simp [hol], by simp [h6], by simp [h10], by simp [h11], by simp [h12], by simp [h13], by simp [h14], by simp (disch := omega) [hU], by simp (disch := omega) [hO], rfl⟩
        refine AWP.seqk fun K59 hK59 => ?_
        refine AWP.drawF 12 Try.checked.mixed (by kernel_rfl) (by simp (disch := first|omega|(simp only[ln];omega)) [runDf.eq_def, runF1, runF2, stepF.eq_def, updo.eq_def, hupo.eq_def, opSto1.eq_def, idx_WdD (P := Try.prog) elT117 szT24, if_pos, idf_Wd', h6, h11, h12, h14, hU, x1.e, x4.e, lV, hul, ld_ip agT24]; rfl) ?_
        refine hK59 _ ?_
        refine cond_ok _ (by simp (disch := first|omega|(simp only[ln];omega)); rfl) (fun h109 => ?_) (fun h109 => ?_)
        · try simp only [decide_eq_true_eq, decide_eq_false_iff_not] at h109
          have hQ0 := Qh.start hPm hw tg g1.1 h109 gv1.2 g2.1 g2.2 g3.2 gv2.1
          refine AWP.seqk fun K60 hK60 => ?_
          refine AWP.region (AOPS.all (by simp (disch := first|omega|(simp only[ln];omega)) [idf_Wd']; rfl) ?_)
          refine hK60 _ ?_
          refine AWP.seqk fun K61 hK61 => ?_
          refine AWP.draw 22 Try.checked.mixed (by kernel_rfl) (by simp) ?_
          simp only [List.take_succ_cons, List.take_zero, List.drop_succ_cons, List.drop_zero]
          refine DP.runFk 18 (by simp (disch := first|omega|(simp only[ln];omega)) [runDf.eq_def, runF1, runF2, stepF.eq_def, updo.eq_def, hupo.eq_def, opSto1.eq_def, List.take_succ_cons, List.take_zero, idx_WdD (P := Try.prog) elT117 szT24, if_pos, idf_Wd', h6, h11, h12, h14, hU, x1.e, x2.e, x4.e, lV, hul, ld_ip agT24]; rfl) fun fs62 hfs62 => ?_
          replace hfs62 : fs62.length = 18 := hfs62.trans rfl
          simp only [List.drop_succ_cons, List.drop_zero]
          refine DP.fcall (div64_fc (hi := gt u (j + m + 2)) (lo := gt u (j + m + 1)) (y0 := gt Vl (m + 1)) g1.1 h109 g2.1 g2.2 gv1.2) rfl rfl rfl hb214 (by simp (disch := first|omega|(simp only[ln];omega)) [idf_Wd', h6, h11, h12, h14, hU, x1.e, x2.e, x4.e, lV, hul, ld_ip agT24]) (by simp (disch := first|omega|(simp only[ln];omega)) [h6, h11, h12, h14, hU, x1.e, x2.e, x4.e, lV, hul, ld_ip agT24]) (by simp) ?_
          simp only [updo]
          refine DP.runFk 3 (by simp (disch := first|omega|(simp only[ln];omega)) [runDf.eq_def, runF1, runF2, stepF.eq_def, updo.eq_def, hupo.eq_def, opSto1.eq_def, List.take_succ_cons, List.take_zero, idx_WdD (P := Try.prog) elT117 szT24, if_pos, idf_Wd', h6, h11, h12, h14, hU, x1.e, x2.e, x4.e, lV, hul, ld_ip agT24]; rfl) fun fs63 hfs63 => ?_
          replace hfs63 : fs63.length = 3 := hfs63.trans rfl
          simp only [List.drop_succ_cons, List.drop_zero]
          refine DQ.runF (m := 22) (by simp only [List.length_append, List.length_cons, List.length_nil, hfs62, hfs63]; omega) _ _ _ (by kernel_rfl) rfl (by simp (disch := first|omega|(simp only[ln];omega)) [runDf.eq_def, runF1, runF2, stepF.eq_def, updo.eq_def, hupo.eq_def, opSto1.eq_def, idx_WdD (P := Try.prog) elT117 szT24, if_pos, idf_Wd', h6, h11, h12, h14, hU, x1.e, x2.e, x4.e, lV, hul, ld_ip agT24]; rfl) ?_
          refine hK61 _ ?_
          refine AWP.block ?_
          refine AWP.loop (fun N s => ∃ q r : Int, N = q.toNat ∧ Qh (val 18446744073709551616 (u.drop j)) ((d : Int) * 2 ^ k) (gt u (j + m + 2)) (gt u (j + m + 1)) (gt Vl (m + 1)) q r ∧ s.env 6 = .int .i64 (n : Int) ∧ s.env 10 = .int .i64 (k : Int) ∧ s.env 11 = Wd .u64 Vl ∧ s.env 12 = .osl iu 0 (J + n + 1) ∧ s.env 13 = .osl io 0 (J + 1) ∧ s.env 14 = .int .i64 (j : Int) ∧ s.env 15 = .int .u64 q ∧ s.env 16 = .int .u64 r ∧ s.heap iu = some (1, wd .u64 u) ∧ s.heap io = some (1, wd .u64 out) ∧ s.nt = 326) (((gt u (j + m + 2) * 18446744073709551616 + gt u (j + m + 1)) / gt Vl (m + 1)).toNat) (⟨_, _, rfl, hQ0, by simp [h6], by simp [h10], by simp [h11], by simp [h12], by simp [h13], by simp [h14], by simp, by simp, by simp (disch := omega) [hU], by simp (disch := omega) [hO], rfl⟩) ?_
          clear h6 h10 h11 h12 h13 h14 hU hO
          rintro N ⟨e, H, mm, nt⟩ ⟨q, r, rfl, hQ, h6, h10, h11, h12, h13, h14, h15, h16, hU, hO, rfl⟩
          simp only [] at h6 h10 h11 h12 h13 h14 h15 h16 hU hO
          have hq0 := hQ.q0
          have hqB := hQ.qB
          have hr0 := hQ.r0
          have hrB := hQ.rB
          have m0 : 0 ≤ q * gt Vl m := Int.mul_nonneg hq0 gv2.1
          refine AWP.block ?_
          refine AWP.seqk fun K64 hK64 => ?_
          refine AWP.region ?_
          refine AOPS.runk 6 (by simp (disch := first|omega|(simp only[ln];omega)) [List.take_succ_cons, List.take_zero, idx_WdD (P := Try.prog) elT117 szT24, if_pos, idf_Wd', h6, h11, h15, x5.e, lV, ld_ip agT24]; rfl) ?_
          simp only [List.drop_succ_cons, List.drop_zero]
          refine AOPS.fcall (mul64_fc q (gt Vl m) hq0 hqB gv2.1 gv2.2) rfl rfl rfl hb177 (by simp (disch := first|omega|(simp only[ln];omega)) [idf_Wd', h6, h11, h15, x5.e, lV, ld_ip agT24]) (by simp (disch := first|omega|(simp only[ln];omega)) [h6, h11, h15, x5.e, lV, ld_ip agT24]) (by simp) ?_
          simp only [puts_some, updo]
          refine AOPS.all (by simp (disch := first|omega|(simp only[ln];omega)) [idx_WdD (P := Try.prog) elT117 szT24, if_pos, idf_Wd', h6, h11, h15, x5.e, lV, ld_ip agT24]; rfl) ?_
          refine hK64 _ ?_
          refine AWP.seqk fun K65 hK65 => ?_
          refine AWP.seqk fun K66 hK66 => ?_
          by_cases hA : q * gt Vl m / 18446744073709551616 < r
          · have c1 : decide (q * gt Vl m / 18446744073709551616 < r) = true := by simp; omega
            refine AWP.region (AOPS.all (by simp (disch := first|omega|(simp only[ln];omega)) [idx_WdD (P := Try.prog) elT117 szT24, if_pos, idf_Wd', h16, c1]; rfl) ?_)
            refine hK66 _ ?_
            refine cond_ok _ (by simp (disch := first|omega|(simp only[ln];omega)); rfl) (fun h160 => ?_) (fun h160 => ?_)
            · try simp only [decide_eq_true_eq, decide_eq_false_iff_not] at h160
              refine AWP.exit ?_
              refine J30 _ ?_
              exact ⟨q, hq0, hqB, hQ.lt, by simp [h6], by simp [h10], by simp [h11], by simp [h12], by simp [h13], by simp [h14], by simp [h15], by simp (disch := omega) [hU], by simp (disch := omega) [hO], rfl⟩
            · simp at h160
          · have c1 : decide (q * gt Vl m / 18446744073709551616 < r) = false := by simp; omega
            by_cases hB : q * gt Vl m / 18446744073709551616 = r
            · have c2 : (q * gt Vl m / 18446744073709551616 == r) = true := by simp [hB]
              refine AWP.region (AOPS.all (by simp (disch := first|omega|(simp only[ln];omega)) [idx_WdD (P := Try.prog) elT117 szT24, if_pos, idf_Wd', h6, h12, h14, h16, hU, x3.e, hul, c1, c2, ld_ip agT24]; rfl) ?_)
              refine hK66 _ ?_
              refine cond_ok _ (by simp (disch := first|omega|(simp only[ln];omega)); rfl) (fun h160 => ?_) (fun h160 => ?_)
              · try simp only [decide_eq_true_eq, decide_eq_false_iff_not] at h160
                refine AWP.exit ?_
                refine J30 _ ?_
                exact ⟨q, hq0, hqB, hQ.lt, by simp [h6], by simp [h10], by simp [h11], by simp [h12], by simp [h13], by simp [h14], by simp [h15], by simp (disch := omega) [hU], by simp (disch := omega) [hO], rfl⟩
              · try simp only [decide_eq_true_eq, decide_eq_false_iff_not] at h160
                refine AWP.skip ?_
                refine hK65 _ ?_
                refine AWP.seqk fun K67 hK67 => ?_
                obtain ⟨s1, s2, s3⟩ := hQ.step hPm hw tg g3.1 (by omega)
                refine AWP.region (AOPS.all (by simp (disch := first|omega|(simp only[ln];omega)) [idf_Wd', h15]; rfl) ?_)
                refine hK67 _ ?_
                refine AWP.seqk fun K68 hK68 => ?_
                refine AWP.region (AOPS.all (by simp (disch := first|omega|(simp only[ln];omega)) [idf_Wd']; rfl) ?_)
                refine hK68 _ ?_
                refine AWP.seqk fun K69 hK69 => ?_
                refine AWP.region ?_
                refine AOPS.runk 6 (by simp (disch := first|omega|(simp only[ln];omega)) [List.take_succ_cons, List.take_zero, idx_WdD (P := Try.prog) elT117 szT24, if_pos, idf_Wd', h6, h11, h16, x4.e, lV, ld_ip agT24]; rfl) ?_
                simp only [List.drop_succ_cons, List.drop_zero]
                refine AOPS.ecall (FE.add64 nb178 r (gt Vl (m + 1)) 0 hQ.r0 gv1.1 (by omega) (by omega)) rfl rfl rfl (by simp (disch := first|omega|(simp only[ln];omega)) [idf_Wd', h6, h11, h16, x4.e, lV, ld_ip agT24]) (by simp (disch := first|omega|(simp only[ln];omega)) [h6, h11, h16, x4.e, lV, ld_ip agT24]) (by simp) ?_
                simp only [puts_some, updo]
                refine AOPS.all (by simp (disch := first|omega|(simp only[ln];omega)) [idx_WdD (P := Try.prog) elT117 szT24, if_pos, idf_Wd', h6, h11, h16, x4.e, lV, ld_ip agT24]; rfl) ?_
                refine hK69 _ ?_
                refine AWP.seqk fun K70 hK70 => ?_
                refine AWP.region (AOPS.all (by simp (disch := first|omega|(simp only[ln];omega)) [idf_Wd']; rfl) ?_)
                refine hK70 _ ?_
                refine cond_ok _ (by simp (disch := first|omega|(simp only[ln];omega)); rfl) (fun h174 => ?_) (fun h174 => ?_)
                · try simp only [decide_eq_true_eq, decide_eq_false_iff_not] at h174
                  refine AWP.exit ?_
                  refine J30 _ ?_
                  exact ⟨q - 1, by omega, by omega, s2, by simp [h6], by simp [h10], by simp [h11], by simp [h12], by simp [h13], by simp [h14], by simp [h15], by simp (disch := omega) [hU], by simp (disch := omega) [hO], rfl⟩
                · try simp only [decide_eq_true_eq, decide_eq_false_iff_not] at h174
                  have hlt : r + gt Vl (m + 1) < 18446744073709551616 := by simp at h174; omega
                  refine AWP.skip ?_
                  refine ⟨(q - 1).toNat, by omega, q - 1, r + gt Vl (m + 1), rfl, ⟨s3, by omega, hlt, by omega, by omega, s2⟩, by simp [h6], by simp [h10], by simp [h11], by simp [h12], by simp [h13], by simp [h14], by simp, by simp [Int.emod_eq_of_lt (show 0 ≤ r + gt Vl (m + 1) by omega) hlt], by simp (disch := omega) [hU], by simp (disch := omega) [hO], rfl⟩
            · have c2 : (q * gt Vl m / 18446744073709551616 == r) = false := by simp [hB]
              refine AWP.region (AOPS.all (by simp (disch := first|omega|(simp only[ln];omega)) [idx_WdD (P := Try.prog) elT117 szT24, if_pos, idf_Wd', h16, c1, c2]; rfl) ?_)
              refine hK66 _ ?_
              refine cond_ok _ (by simp (disch := first|omega|(simp only[ln];omega)); rfl) (fun h160 => ?_) (fun h160 => ?_)
              · simp at h160
              · try simp only [decide_eq_true_eq, decide_eq_false_iff_not] at h160
                refine AWP.skip ?_
                refine hK65 _ ?_
                refine AWP.seqk fun K71 hK71 => ?_
                obtain ⟨s1, s2, s3⟩ := hQ.step hPm hw tg g3.1 (by omega)
                refine AWP.region (AOPS.all (by simp (disch := first|omega|(simp only[ln];omega)) [idf_Wd', h15]; rfl) ?_)
                refine hK71 _ ?_
                refine AWP.seqk fun K72 hK72 => ?_
                refine AWP.region (AOPS.all (by simp (disch := first|omega|(simp only[ln];omega)) [idf_Wd']; rfl) ?_)
                refine hK72 _ ?_
                refine AWP.seqk fun K73 hK73 => ?_
                refine AWP.region ?_
                refine AOPS.runk 6 (by simp (disch := first|omega|(simp only[ln];omega)) [List.take_succ_cons, List.take_zero, idx_WdD (P := Try.prog) elT117 szT24, if_pos, idf_Wd', h6, h11, h16, x4.e, lV, ld_ip agT24]; rfl) ?_
                simp only [List.drop_succ_cons, List.drop_zero]
                refine AOPS.ecall (FE.add64 nb178 r (gt Vl (m + 1)) 0 hQ.r0 gv1.1 (by omega) (by omega)) rfl rfl rfl (by simp (disch := first|omega|(simp only[ln];omega)) [idf_Wd', h6, h11, h16, x4.e, lV, ld_ip agT24]) (by simp (disch := first|omega|(simp only[ln];omega)) [h6, h11, h16, x4.e, lV, ld_ip agT24]) (by simp) ?_
                simp only [puts_some, updo]
                refine AOPS.all (by simp (disch := first|omega|(simp only[ln];omega)) [idx_WdD (P := Try.prog) elT117 szT24, if_pos, idf_Wd', h6, h11, h16, x4.e, lV, ld_ip agT24]; rfl) ?_
                refine hK73 _ ?_
                refine AWP.seqk fun K74 hK74 => ?_
                refine AWP.region (AOPS.all (by simp (disch := first|omega|(simp only[ln];omega)) [idf_Wd']; rfl) ?_)
                refine hK74 _ ?_
                refine cond_ok _ (by simp (disch := first|omega|(simp only[ln];omega)); rfl) (fun h174 => ?_) (fun h174 => ?_)
                · try simp only [decide_eq_true_eq, decide_eq_false_iff_not] at h174
                  refine AWP.exit ?_
                  refine J30 _ ?_
                  exact ⟨q - 1, by omega, by omega, s2, by simp [h6], by simp [h10], by simp [h11], by simp [h12], by simp [h13], by simp [h14], by simp [h15], by simp (disch := omega) [hU], by simp (disch := omega) [hO], rfl⟩
                · try simp only [decide_eq_true_eq, decide_eq_false_iff_not] at h174
                  have hlt : r + gt Vl (m + 1) < 18446744073709551616 := by simp at h174; omega
                  refine AWP.skip ?_
                  refine ⟨(q - 1).toNat, by omega, q - 1, r + gt Vl (m + 1), rfl, ⟨s3, by omega, hlt, by omega, by omega, s2⟩, by simp [h6], by simp [h10], by simp [h11], by simp [h12], by simp [h13], by simp [h14], by simp, by simp [Int.emod_eq_of_lt (show 0 ≤ r + gt Vl (m + 1) by omega) hlt], by simp (disch := omega) [hU], by simp (disch := omega) [hO], rfl⟩
        · try simp only [decide_eq_true_eq, decide_eq_false_iff_not] at h109
          refine AWP.skip ?_
          refine J30 _ ?_
          exact ⟨18446744073709551615, by omega, by omega, by omega, by simp [h6], by simp [h10], by simp [h11], by simp [h12], by simp [h13], by simp [h14], by simp, by simp (disch := omega) [hU], by simp (disch := omega) [hO], rfl⟩
      · try simp only [decide_eq_true_eq, decide_eq_false_iff_not] at h95
        obtain rfl : N = 0 := by omega
        obtain ⟨f1, f2⟩ := dw_fin hp0 hKn
        have hltn : val 18446744073709551616 u < (18446744073709551616 : Int) ^ n := by
          have := hKn.hi
          rw [List.drop_zero] at this
          rw [hn]; omega
        obtain ⟨M, hM⟩ : ∃ M, M = (trimW (u.take n)).length := ⟨_, rfl⟩
        have hMn : M ≤ n := by
          have := trimW_length (u.take n)
          rw [List.length_take] at this; omega
        refine AWP.exit ?_
        refine hK24 _ ?_
        refine AWP.seqk fun K75 hK75 => ?_
        refine AWP.region ?_
        refine AOPS.runk 3 (by simp (disch := first|omega|(simp only[ln];omega)) [List.take_succ_cons, List.take_zero, if_pos, idf_Wd', h6, h12, hU, hul]; rfl) ?_
        simp only [List.drop_succ_cons, List.drop_zero]
        refine AOPS.acall (trim_ac u iu n _ _ (by simp [hU]) (by omega) (by omega)) rfl rfl rfl hb176 (by simp (disch := first|omega|(simp only[ln];omega)) [idf_Wd', h6, h12, hU, hul]) (by simp (disch := first|omega|(simp only[ln];omega)) [h6, h12, hU, hul]) (by simp) ?_
        rintro _ H5 nx5 ⟨rfl, rfl, hnx5⟩
        rw [← hM]
        simp only [puts_some, updo]
        refine AOPS.all (by simp (disch := first|omega|(simp only[ln];omega)) [if_pos, idf_Wd', h6, h12, hU, hul]; rfl) ?_
        refine hK75 _ ?_
        refine AWP.seqk fun K76 hK76 => ?_
        refine AWP.seqk fun K77 hK77 => ?_
        refine AWP.region (AOPS.all (by simp (disch := first|omega|(simp only[ln];omega)) [len_Wd (P := Try.prog) #[117] rfl elT117, idf_Wd', hU]; rfl) ?_)
        refine hK77 _ ?_
        refine AWP.block ?_
        refine AWP.loop (fun N s => ∃ (i : Nat) (o : List Int), N = M - i ∧ i ≤ M ∧ o.length = J + n + 1 ∧ Dig 18446744073709551616 o ∧ (∀ x, x < i → gt o x = gt (trimW (u.take n)) x / 2 ^ k + gt (trimW (u.take n)) (x + 1) % 2 ^ k * 2 ^ (64 - k)) ∧ (∀ x, i ≤ x → x < M → gt o x = gt (trimW (u.take n)) x) ∧ s.env 10 = .int .i64 (k : Int) ∧ s.env 13 = .osl io 0 (J + 1) ∧ s.env 28 = .osl iu 0 M ∧ s.env 289 = .int .i64 (M : Int) ∧ s.env 290 = .int .i64 (i : Int) ∧ s.heap iu = some (1, wd .u64 o) ∧ s.heap io = some (1, wd .u64 out) ∧ s.nt = 326) (M) (⟨0, u, by omega, by omega, hul, hKn.dig, by intro x hx; omega, by intro x _ hx; rw [gt_trimW x (by omega), gt_take (by omega)], by simp [h10], by simp [h13], by simp, by simp, by simp, by simp (disch := omega) [hU], by simp (disch := omega) [hO], rfl⟩) ?_
        clear h6 h10 h11 h12 h13 h14 hU hO
        rintro N ⟨e, H, mm, nt⟩ ⟨i, o, rfl, hi, hol2, dO, hs1, hs2, h10, h13, h28, h289, h290, hU, hO, rfl⟩
        simp only [] at h10 h13 h28 h289 h290 hU hO
        refine AWP.seqk fun K78 hK78 => ?_
        refine AWP.region (AOPS.all (by simp (disch := first|omega|(simp only[ln];omega)) [idf_Wd', h289, h290]; rfl) ?_)
        refine hK78 _ ?_
        refine AWP.seqk fun K79 hK79 => ?_
        refine cond_ok _ (by simp (disch := first|omega|(simp only[ln];omega)); rfl) (fun h291 => ?_) (fun h291 => ?_)
        · try simp only [decide_eq_true_eq, decide_eq_false_iff_not] at h291
          have hi' : i < M := by omega
          have dT := (hKn.dig.take n).trim
          have gi := dT.gt (by omega) i
          have gi2 := dT.gt (by omega) (i + 1)
          have od := or_down (y := gt (trimW (u.take n)) (i + 1)) hk gi.1 gi.2
          have hoi := hs2 i (Nat.le_refl _) hi'
          have i1 : TN (((i : Int) + 1).toNat) (i + 1) := TN.i (by omega)
          refine AWP.skip ?_
          refine hK79 _ ?_
          refine AWP.seqk fun K80 hK80 => ?_
          refine AWP.block ?_
          refine AWP.seqk fun K81 hK81 => ?_
          refine AWP.region (AOPS.all (by simp (disch := first|omega|(simp only[ln];omega)) [idf_Wd', h290]; rfl) ?_)
          refine hK81 _ ?_
          refine AWP.seqk fun K82 hK82 => ?_
          refine AWP.region (AOPS.all (by simp (disch := first|omega|(simp only[ln];omega)) [idf_Wd']; rfl) ?_)
          refine hK82 _ ?_
          refine AWP.seqk fun K83 hK83 => ?_
          refine AWP.seqk fun K84 hK84 => ?_
          by_cases hiM : i + 1 < M
          · have c1 : decide ((i : Int) + 1 < (M : Int)) = true := by simp; omega
            have c2 : True := trivial
            refine AWP.region (AOPS.all (by simp (disch := first|omega|(simp only[ln];omega)) [len_Wd (P := Try.prog) #[117] rfl elT117, idf_Wd', h10, h28, hU, c1]; rfl) ?_)
            refine hK84 _ ?_
            refine cond_ok _ (by simp (disch := first|omega|(simp only[ln];omega)); rfl) (fun h301 => ?_) (fun h301 => ?_)
            · try simp only [decide_eq_true_eq, decide_eq_false_iff_not] at h301
              have hk0 : 0 < k := by omega
              have ho2 := hs2 (i + 1) (by omega) hiM
              have wl : IntKind.u64.wrap (gt (trimW (u.take n)) (i + 1) * 2 ^ (64 - k)) = gt (trimW (u.take n)) (i + 1) % 2 ^ k * 2 ^ (64 - k) := by rw [wrap_u64m, shl_low (by omega)]
              have w9 : TN (((64 : Int) - (k : Int)).toNat) (64 - k) := TN.i (by omega)
              have od1 := od.1
              refine AWP.region (AOPS.all (by simp (disch := first|omega|(simp only[ln];omega)) [idx_WdD (P := Try.prog) elT117 szT24, if_pos, idf_Wd', h10, h28, hU, hol2, i1.e, ho2, w9.e, hmk2.e, wl, IntKind.bits, ld_ip agT24]; rfl) ?_)
              refine hK83 _ ?_
              refine AWP.region (AOPS.all (by simp (disch := first|omega|(simp only[ln];omega)) [idx_WdD (P := Try.prog) elT117 szT24, if_pos, idf_Wd', h10, h28, hU, hol2, hoi, hmk.e, IntKind.bits, fdk, od1, ld_ip agT24]; rfl) ?_)
              refine hK80 _ ?_
              refine AWP.region (AOPS.all (by simp (disch := first|omega|(simp only[ln];omega)) [idf_Wd', h290]; rfl) ?_)
              refine ⟨M - (i + 1), by omega, i + 1, o.set i (gt (trimW (u.take n)) i / 2 ^ k + gt (trimW (u.take n)) (i + 1) % 2 ^ k * 2 ^ (64 - k)), rfl, by omega, by simp [hol2], dO.set _ od.2.1 od.2.2, ?_, ?_, by simp [h10], by simp [h13], by simp [h28], by simp [h289], by simp (disch := omega) [h290], by simp, by simp (disch := omega) [hO], rfl⟩
              · intro x hx
                by_cases hxi : x = i
                · subst hxi; rw [gt_set (by omega)]
                · rw [gt_set_ne (by omega)]; exact hs1 x (by omega)
              · intro x hx hx2
                rw [gt_set_ne (by omega)]; exact hs2 x (by omega) hx2
            · try simp only [decide_eq_true_eq, decide_eq_false_iff_not] at h301
              have hk0 : k = 0 := by omega
              have hzz : gt (trimW (u.take n)) (i + 1) % 2 ^ k * 2 ^ (64 - k) = 0 := by subst hk0; simp
              have od1 := od.1
              rw [hzz, Int.add_zero] at od1
              refine AWP.skip ?_
              refine hK83 _ ?_
              refine AWP.region (AOPS.all (by simp (disch := first|omega|(simp only[ln];omega)) [idx_WdD (P := Try.prog) elT117 szT24, if_pos, idf_Wd', h10, h28, hU, hol2, hoi, hmk.e, IntKind.bits, fdk, od1, ld_ip agT24]; rfl) ?_)
              refine hK80 _ ?_
              refine AWP.region (AOPS.all (by simp (disch := first|omega|(simp only[ln];omega)) [idf_Wd', h290]; rfl) ?_)
              refine ⟨M - (i + 1), by omega, i + 1, o.set i (gt (trimW (u.take n)) i / 2 ^ k + gt (trimW (u.take n)) (i + 1) % 2 ^ k * 2 ^ (64 - k)), rfl, by omega, by simp [hol2], dO.set _ od.2.1 od.2.2, ?_, ?_, by simp [h10], by simp [h13], by simp [h28], by simp [h289], by simp (disch := omega) [h290], by simp [hzz], by simp (disch := omega) [hO], rfl⟩
              · intro x hx
                by_cases hxi : x = i
                · subst hxi; rw [gt_set (by omega)]
                · rw [gt_set_ne (by omega)]; exact hs1 x (by omega)
              · intro x hx hx2
                rw [gt_set_ne (by omega)]; exact hs2 x (by omega) hx2
          · have c1 : decide ((i : Int) + 1 < (M : Int)) = false := by simp; omega
            have c2 : True := trivial
            refine AWP.region (AOPS.all (by simp (disch := first|omega|(simp only[ln];omega)) [len_Wd (P := Try.prog) #[117] rfl elT117, idf_Wd', h28, hU, c1]; rfl) ?_)
            refine hK84 _ ?_
            refine cond_ok _ (by simp (disch := first|omega|(simp only[ln];omega)); rfl) (fun h301 => ?_) (fun h301 => ?_)
            · simp at h301
            · try simp only [decide_eq_true_eq, decide_eq_false_iff_not] at h301
              have hzz : gt (trimW (u.take n)) (i + 1) % 2 ^ k * 2 ^ (64 - k) = 0 := by rw [gt_ge (by omega), Int.zero_emod, Int.zero_mul]
              have od1 := od.1
              rw [hzz, Int.add_zero] at od1
              refine AWP.skip ?_
              refine hK83 _ ?_
              refine AWP.region (AOPS.all (by simp (disch := first|omega|(simp only[ln];omega)) [idx_WdD (P := Try.prog) elT117 szT24, if_pos, idf_Wd', h10, h28, hU, hol2, hoi, hmk.e, IntKind.bits, fdk, od1, ld_ip agT24]; rfl) ?_)
              refine hK80 _ ?_
              refine AWP.region (AOPS.all (by simp (disch := first|omega|(simp only[ln];omega)) [idf_Wd', h290]; rfl) ?_)
              refine ⟨M - (i + 1), by omega, i + 1, o.set i (gt (trimW (u.take n)) i / 2 ^ k + gt (trimW (u.take n)) (i + 1) % 2 ^ k * 2 ^ (64 - k)), rfl, by omega, by simp [hol2], dO.set _ od.2.1 od.2.2, ?_, ?_, by simp [h10], by simp [h13], by simp [h28], by simp [h289], by simp (disch := omega) [h290], by simp [hzz], by simp (disch := omega) [hO], rfl⟩
              · intro x hx
                by_cases hxi : x = i
                · subst hxi; rw [gt_set (by omega)]
                · rw [gt_set_ne (by omega)]; exact hs1 x (by omega)
              · intro x hx hx2
                rw [gt_set_ne (by omega)]; exact hs2 x (by omega) hx2
        · try simp only [decide_eq_true_eq, decide_eq_false_iff_not] at h291
          have hin : i = M := by omega
          rw [hin] at hs1
          have hrd := rest_down (a := a) (d := d) (k := k) (n := n) hk hKn.dig (by omega) f2 hltn dO (by omega) (by rw [← hM]; exact hs1)
          rw [← hM] at hrd
          have t1 : trimW out = mag ((a / d : Nat) : Int) := by rw [mag_of hKn.dout, f1]
          refine AWP.exit ?_
          refine hK76 _ ?_
          refine AWP.seqk fun K85 hK85 => ?_
          refine AWP.region ?_
          refine AOPS.runk 1 (by simp (disch := first|omega|(simp only[ln];omega)) [List.take_succ_cons, List.take_zero, idf_Wd', h13, h28]; rfl) ?_
          simp only [List.drop_succ_cons, List.drop_zero]
          refine AOPS.frz1 322 io 1 (wd .u64 out) (Wd .u64 out) (by simp (disch := omega) [hO]) (by simp [h13, ← hol]; first | exact fz_wd rfl | exact isl_take_wd (Nat.le_refl _)) ?_
          refine AOPS.fcall (trim_fc out (by omega)) rfl rfl rfl hb176 (by simp (disch := first|omega|(simp only[ln];omega)) [idf_Wd', h13, h28]) (by simp (disch := first|omega|(simp only[ln];omega)) [h13, h28]) (by simp) ?_
          simp only [puts_some, updo]
          refine AOPS.runk 1 (by simp (disch := first|omega|(simp only[ln];omega)) [List.take_succ_cons, List.take_zero, idf_Wd', h13, h28]; rfl) ?_
          simp only [List.drop_succ_cons, List.drop_zero]
          refine AOPS.frz1 324 iu 1 (wd .u64 o) (Wd .u64 (o.take M)) (by simp (disch := omega) [hU]) (by simp [h28]; exact fz_wdt (by omega)) ?_
          refine AOPS.fcall (trim_fc (o.take M) (by simp; omega)) rfl rfl rfl hb176 (by simp (disch := first|omega|(simp only[ln];omega)) [idf_Wd', h13, h28]) (by simp (disch := first|omega|(simp only[ln];omega)) [h13, h28]) (by simp) ?_
          simp only [puts_some, updo]
          refine AOPS.all (by simp (disch := first|omega|(simp only[ln];omega)) [idf_Wd', h13, h28]; rfl) ?_
          refine hK85 _ ?_
          refine AWP.ret ?_
          exact hK _ _ _ _ trivial ((Fin.mk (r := .tup [Wd .u64 (trimW out), Wd .u64 (trimW (o.take M))]) (by simp [aRes, aResL, aRes1, idf_Wd'])).cast (by rw [t1, hrd.2]))

end Go.Proofs.Ytmaebeknmiomnaa

/- Walks: the greatest common divisor. -/
namespace Go.Proofs.Ytmaebeknmiomnaa
open Go Go.RowKit
set_option linter.unusedSimpArgs false
set_option linter.unusedVariables false
set_option maxRecDepth 100000
attribute [local simp] List.getElem?_cons_zero List.getElem?_cons_succ List.getElem?_toArray runOps stepOp.eq_def agd.eq_def dstOk.eq_def opVal.eq_def opNew.eq_def opSto.eq_def ev.eq_def cv.eq_def puts_some puts_none upd_ap lst.eq_def aBin.eq_def aUn.eq_def aBi_str aBi_isl aBi_osl aBi_nsl aBi_max aBi_min aBi_max3 aConv.eq_def aLd.eq_def aLoad.eq_def aField.eq_def aFld.eq_def aIdx_isl aIdx_osl aSlc_isl aSlc_osl aSlc_str aSlc_nsl bnd.eq_def evs_nil evs_cons aBuild.eq_def aFill splice.eq_def cells_agg cells_int cells_bool cells_str cells_nil cells_nsl cells_isl cells_osl cells_ptr cells_ip cells_fn cells_Wd one_int one_bool one_str one_nil one_nsl one_isl one_osl one_ptr one_ip one_fn one_Wd aSets hupd_eq hupd_ne wrap_i64s wrap_u64s wrap_u32s wrap_u8s wd_getD wd_set wd_len wd_replicate wd_one wd_fold fz_osl hupd_same aSix.eq_def aEqS.eq_def aEqB_bool aEqB_nsl aEqB_nil
attribute [local simp] szT3 byT3 agT3 unT3 zoT3 szT4 byT4 agT4 unT4 zoT4 szT24 byT24 agT24 unT24 zoT24 szT117 byT117 agT117 elT117 unT117 zoT117 szT119 byT119 agT119 flT119 fdT119_0 fdT119_1 zoT119 szT200 byT200 agT200 elT200 unT200 zoT200

set_option maxHeartbeats 2000000 in
theorem gcd_fc {j : Nat} (zs : List Int) (hz : ∀ z ∈ zs, Bg j z) (hj : j ≤ 68719476736) (hl : zs.length ≤ 1099511627776) : FC Try.prog 87 [.isl (zs.map numC)] (numI ((gcdL zs : Nat) : Int)) := by
  refine FC.body Try.func87 rfl (by simp [idfL, idf, idfLL_iff, numC, idf_Wd']) (by simp [idfL, idf, idfLL_iff, idf_Wd', idf_numI, cells_numI, numI_fold]) 37 rfl fun nx K hK => ?_
  refine AWP.seqk fun K1 hK1 => ?_
  refine AWP.region (AOPS.all (by simp (disch := first|omega|(simp only[ln];omega)) [idf_Wd', idf_numI, cells_numI, numI_fold]; rfl) ?_)
  refine hK1 _ ?_
  refine AWP.seqk fun K2 hK2 => ?_
  refine AWP.region (AOPS.all (by simp (disch := first|omega|(simp only[ln];omega)) [idf_Wd', idf_numI, cells_numI, numI_fold]; rfl) ?_)
  refine hK2 _ ?_
  refine AWP.seqk fun K3 hK3 => ?_
  refine AWP.seqk fun K4 hK4 => ?_
  refine AWP.region (AOPS.all (by simp (disch := first|omega|(simp only[ln];omega)) [idf_Wd', idf_numI, cells_numI, numI_fold]; rfl) ?_)
  refine hK4 _ ?_
  refine AWP.block ?_
  refine AWP.loop (fun N s => ∃ (i : Nat) (X : AV), N = zs.length - i ∧ i ≤ zs.length ∧ (X = .nsl ∧ i = 0 ∨ X = Wd .u64 (mag ((gcdL (zs.take i) : Nat) : Int))) ∧ s.env 2 = .ptr nx 0 0 ∧ s.env 3 = .ptr (nx + 1) 0 0 ∧ s.env 11 = .isl (zs.map numC) ∧ s.env 12 = .int .i64 (zs.length : Int) ∧ s.env 13 = .int .i64 (i : Int) ∧ s.heap nx = some (2, [[.bool false, .nsl]]) ∧ s.heap (nx + 1) = some (2, [[.bool false, X]]) ∧ nx + 1 < s.nx ∧ s.nt = 37) (zs.length) (⟨0, .nsl, by omega, by omega, .inl ⟨rfl, rfl⟩, by simp, by simp, by simp, by simp, by simp, by simp, by simp, by simp, rfl⟩) ?_
  rintro N ⟨e, H, mm, nt⟩ ⟨i, X, rfl, hi, hX, h2, h3, h11, h12, h13, hA, hB, hm, rfl⟩
  simp only [] at h2 h3 h11 h12 h13 hA hB hm
  refine AWP.seqk fun K5 hK5 => ?_
  refine AWP.region (AOPS.all (by simp (disch := first|omega|(simp only[ln];omega)) [idf_Wd', idf_numI, cells_numI, numI_fold, h12, h13]; rfl) ?_)
  refine hK5 _ ?_
  refine AWP.seqk fun K6 hK6 => ?_
  refine cond_ok _ (by simp (disch := first|omega|(simp only[ln];omega)); rfl) (fun h14 => ?_) (fun h14 => ?_)
  · try simp only [decide_eq_true_eq, decide_eq_false_iff_not] at h14
    have hi' : i < zs.length := by omega
    have hzi : zs[i]? = some (gt zs i) := gt_some hi'
    have hmem : gt zs i ∈ zs := List.mem_of_getElem? hzi
    have bz := hz _ hmem
    have bg := gcdL_bg zs hz i
    have hmi : (zs.map numC)[i]? = some (numC (gt zs i)) := by rw [List.getElem?_map, hzi]; rfl
    refine AWP.skip ?_
    refine hK6 _ ?_
    refine AWP.seqk fun K7 hK7 => ?_
    refine AWP.block ?_
    refine AWP.seqk fun K8 hK8 => ?_
    refine AWP.region (AOPS.all (by simp (disch := first|omega|(simp only[ln];omega)) [if_pos, idf_Wd', idf_numI, cells_numI, numI_fold, h11, h13, hmi, numC, hm]; rfl) ?_)
    refine hK8 _ ?_
    refine AWP.seqk fun K9 hK9 => ?_
    have hne : nx + 1 ≠ mm := by omega
    have hne2 : mm ≠ nx + 1 := by omega
    refine AWP.drawF 4 Try.checked.mixed (by kernel_rfl) (by simp (disch := first|omega|(simp only[ln];omega)) [runDf.eq_def, runF1, runF2, stepF.eq_def, updo.eq_def, hupo.eq_def, opSto1.eq_def, idf_Wd', idf_numI, cells_numI, numI_fold, h3, hB, Nat.ne_of_lt hm, numC]; rfl) ?_
    refine hK9 _ ?_
    refine AWP.seqk fun K10 hK10 => ?_
    refine AWP.block ?_
    refine AWP.weakE 6 (Wd .u64 (mag ((gcdL (zs.take i) : Nat) : Int))) (by
      rcases hX with ⟨rfl, h0⟩ | rfl
      · simp only [upd_ap]; intro w β b v hv
        have hv' : VR w β b .nsl v := by simpa using hv
        have : mag ((gcdL (zs.take i) : Nat) : Int) = [] := by rw [h0]; exact mag_zero
        rw [this]; exact nsl_Wd .u64 hv'
      · intro w β b v hv; simpa [upd_ap] using hv) ?_
    refine AWP.loop (fun N s => ∃ x y : Nat, N = y ∧ Nat.gcd x y = Nat.gcd (gcdL (zs.take i)) (gt zs i).natAbs ∧ Bg j x ∧ Bg j y ∧ s.env 2 = .ptr nx 0 0 ∧ s.env 3 = .ptr (nx + 1) 0 0 ∧ s.env 11 = .isl (zs.map numC) ∧ s.env 12 = .int .i64 (zs.length : Int) ∧ s.env 13 = .int .i64 (i : Int) ∧ s.env 6 = Wd .u64 (mag (x : Int)) ∧ s.env 7 = Wd .u64 (mag (y : Int)) ∧ s.heap nx = some (2, [[.bool false, .nsl]]) ∧ s.heap (nx + 1) = some (2, [[.bool false, X]]) ∧ nx + 1 < s.nx ∧ s.nt = 37) ((gt zs i).natAbs) (⟨gcdL (zs.take i), (gt zs i).natAbs, rfl, rfl, bg, bz.abs, by simp [h2], by simp [h3], by simp [h11], by simp [h12], by simp [h13], by simp, by simp [mag_abs], by simp (disch := omega) [hA], by simp (disch := omega) [hB], by simp; omega, rfl⟩) ?_
    clear h2 h3 h11 h12 h13 hA hB
    rintro N ⟨e, H, mm2, nt⟩ ⟨x, y, rfl, hg, bx, bY, h2, h3, h11, h12, h13, h6, h7, hA, hB, hm2, rfl⟩
    simp only [] at h2 h3 h11 h12 h13 h6 h7 hA hB hm2
    refine AWP.seqk fun K11 hK11 => ?_
    refine AWP.seqk fun K12 hK12 => ?_
    refine AWP.region (AOPS.all (by simp (disch := first|omega|(simp only[ln];omega)) [len_Wd (P := Try.prog) #[117] rfl elT117, idf_Wd', idf_numI, cells_numI, numI_fold, h7]; rfl) ?_)
    refine hK12 _ ?_
    refine cond_ok _ (by simp (disch := first|omega|(simp only[ln];omega)); rfl) (fun h23 => ?_) (fun h23 => ?_)
    · try simp only [decide_eq_true_eq, decide_eq_false_iff_not] at h23
      have hy : N ≠ 0 := fun h => by
        subst h
        simp [mag_zero] at h23
      refine AWP.skip ?_
      refine hK11 _ ?_
      refine AWP.block ?_
      refine AWP.seqk fun K13 hK13 => ?_
      refine AWP.region ?_
      refine AOPS.runk 2 (by simp (disch := first|omega|(simp only[ln];omega)) [List.take_succ_cons, List.take_zero, idf_Wd', idf_numI, cells_numI, numI_fold, h6, h7]; rfl) ?_
      simp only [List.drop_succ_cons, List.drop_zero]
      refine AOPS.fcall (divWords_fc x N hy (Nat.le_trans bx.len hj) (Nat.le_trans bY.len hj)) rfl rfl rfl hb172 (by simp (disch := first|omega|(simp only[ln];omega)) [idf_Wd', h6, h7, idf_numI, cells_numI, numI_fold]) (by simp (disch := first|omega|(simp only[ln];omega)) [h6, h7]) (by simp) ?_
      simp only [puts_some, updo]
      refine AOPS.all (by simp (disch := first|omega|(simp only[ln];omega)) [idf_Wd', idf_numI, cells_numI, numI_fold, h6, h7]; rfl) ?_
      refine hK13 _ ?_
      refine AWP.region ?_
      refine AOPS.runk 2 (by simp (disch := first|omega|(simp only[ln];omega)) [List.take_succ_cons, List.take_zero, idf_Wd', idf_numI, cells_numI, numI_fold, h7]; rfl) ?_
      simp only [List.drop_succ_cons, List.drop_zero]
      refine AOPS.fcall (clone_fc (mag ((x % N : Nat) : Int)) (by have := (bY.mod x hy).len; omega)) rfl rfl rfl hb173 (by simp (disch := first|omega|(simp only[ln];omega)) [idf_Wd', h7, idf_numI, cells_numI, numI_fold]) (by simp (disch := first|omega|(simp only[ln];omega)) [h7]) (by simp) ?_
      simp only [puts_some, updo]
      refine AOPS.all (by simp (disch := first|omega|(simp only[ln];omega)) [idf_Wd', idf_numI, cells_numI, numI_fold, h7]; rfl) ?_
      refine ⟨x % N, Nat.mod_lt _ (by omega), N, x % N, rfl, by rw [← hg, Nat.gcd_comm N, ← Nat.gcd_rec, Nat.gcd_comm], bY, bY.mod x (by omega), by simp [h2], by simp [h3], by simp [h11], by simp [h12], by simp [h13], by simp [h7], by simp, by simp [hA], by simp [hB], by simpa using hm2, rfl⟩
    · try simp only [decide_eq_true_eq, decide_eq_false_iff_not] at h23
      have hy : N = 0 := by
        have : (mag (N : Int)).length = 0 := by omega
        rw [mag_len0] at this; omega
      subst hy
      rw [Nat.gcd_zero_right] at hg
      rw [hg] at h6
      refine AWP.exit ?_
      refine hK10 _ ?_
      refine AWP.region (AOPS.all (by simp (disch := first|omega|(simp only[ln];omega)) [idf_Wd', idf_numI, cells_numI, numI_fold, h3, h6, hB]; rfl) ?_)
      refine hK7 _ ?_
      refine AWP.region (AOPS.all (by simp (disch := first|omega|(simp only[ln];omega)) [idf_Wd', idf_numI, cells_numI, numI_fold, h13]; rfl) ?_)
      have hgz := gcdL_succ zs hi'
      refine ⟨zs.length - (i + 1), by omega, i + 1, Wd .u64 (mag ((gcdL (zs.take (i + 1)) : Nat) : Int)), rfl, by omega, .inr rfl, by simp [h2], by simp [h3], by simp [h11], by simp [h12], by simp (disch := omega) [h13], by simp (disch := omega) [hA], by simp [hgz, ← hg], by simpa using hm2, rfl⟩
  · try simp only [decide_eq_true_eq, decide_eq_false_iff_not] at h14
    have hin : i = zs.length := by omega
    refine AWP.exit ?_
    refine hK3 _ ?_
    refine AWP.seqk fun K14 hK14 => ?_
    rcases hX with ⟨rfl, h0⟩ | rfl
    · have hz0 : zs = [] := List.length_eq_zero_iff.mp (by omega)
      refine AWP.region (AOPS.all (by simp (disch := first|omega|(simp only[ln];omega)) [idf_Wd', idf_numI, cells_numI, numI_fold, h2, h3, hA, hB]; rfl) ?_)
      refine hK14 _ ?_
      refine AWP.ret ?_
      exact hK _ _ _ _ trivial ((Fin.mk (r := .agg [.bool false, .nsl]) (by simp [aRes, aResL, aRes1, h2, idf_Wd', idf_numI, cells_numI, numI_fold])).weak (by rw [hz0]; exact fun _ _ _ _ => num0_weak))
    · rw [hin, List.take_length] at hB
      refine AWP.region (AOPS.all (by simp (disch := first|omega|(simp only[ln];omega)) [idf_Wd', idf_numI, cells_numI, numI_fold, h2, h3, hA, hB]; rfl) ?_)
      refine hK14 _ ?_
      refine AWP.ret ?_
      exact hK _ _ _ _ trivial ((Fin.mk (r := .agg [.bool false, Wd .u64 (mag ((gcdL zs : Nat) : Int))]) (by simp [aRes, aResL, aRes1, h2, idf_Wd', idf_numI, cells_numI, numI_fold])).cast (by unfold numI; simp))

end Go.Proofs.Ytmaebeknmiomnaa

/- Walks: are points right?. -/
namespace Go.Proofs.Ytmaebeknmiomnaa
open Go Go.RowKit
set_option linter.unusedSimpArgs false
set_option linter.unusedVariables false
set_option maxRecDepth 100000
attribute [local simp] List.getElem?_cons_zero List.getElem?_cons_succ List.getElem?_toArray runOps stepOp.eq_def agd.eq_def dstOk.eq_def opVal.eq_def opNew.eq_def opSto.eq_def ev.eq_def cv.eq_def puts_some puts_none upd_ap lst.eq_def aBin.eq_def aUn.eq_def aBi_str aBi_isl aBi_osl aBi_nsl aBi_max aBi_min aBi_max3 aConv.eq_def aLd.eq_def aLoad.eq_def aField.eq_def aFld.eq_def aIdx_isl aIdx_osl aSlc_isl aSlc_osl aSlc_str aSlc_nsl bnd.eq_def evs_nil evs_cons aBuild.eq_def aFill splice.eq_def cells_agg cells_int cells_bool cells_str cells_nil cells_nsl cells_isl cells_osl cells_ptr cells_ip cells_fn cells_Wd one_int one_bool one_str one_nil one_nsl one_isl one_osl one_ptr one_ip one_fn one_Wd aSets hupd_eq hupd_ne wrap_i64s wrap_u64s wrap_u32s wrap_u8s wd_getD wd_set wd_len wd_replicate wd_one wd_fold fz_osl hupd_same aSix.eq_def aEqS.eq_def aEqB_bool aEqB_nsl aEqB_nil
attribute [local simp] szT2 byT2 agT2 unT2 zoT2 szT4 byT4 agT4 unT4 zoT4 szT24 byT24 agT24 unT24 zoT24 szT26 byT26 agT26 flT26 fdT26_0 fdT26_1 fdT26_2 fdT26_3 zoT26 szT28 byT28 agT28 flT28 fdT28_0 fdT28_1 fdT28_2 zoT28 szT111 byT111 agT111 elT111 unT111 zoT111 szT113 byT113 agT113 flT113 fdT113_0 fdT113_1 zoT113 szT115 byT115 agT115 flT115 fdT115_0 fdT115_1 fdT115_2 zoT115 szT119 byT119 agT119 flT119 fdT119_0 fdT119_1 zoT119 szT121 byT121 agT121 flT121 fdT121_0 fdT121_1 fdT121_2 zoT121 szT225 byT225 agT225 unT225 zoT225

set_option maxHeartbeats 1000000 in
theorem l3Of_fc (p : Pt) (hp : p.ok) : FC Try.prog 83 [p.av] (l3A p.x.v p.y.v p.w.v) := by
  
  refine FC.body Try.func83 rfl (by simp [idfL, idf, idfLL_iff, idf_Wd', idf_numS, cells_numS, numS_fold, idf_numI, cells_numI, numI_fold, Pt.av, Pt.cells, wdI]) (by simp [idfL, idf, l3A, l3C, idf_Wd']) 13 rfl fun nx K hK => ?_
  refine AWP.seqk fun K1 hK1 => ?_
  refine AWP.region (AOPS.all (by simp (disch := first|omega|(simp only[ln];omega)) [idf_Wd', idf_numS, cells_numS, numS_fold, idf_numI, cells_numI, numI_fold, Pt.av, Pt.cells, wdI]; rfl) ?_)
  refine hK1 _ ?_
  refine AWP.seqk fun K2 hK2 => ?_
  refine AWP.draw 10 Try.checked.mixed (by kernel_rfl) (by simp) ?_
  simp only [List.take_succ_cons, List.take_zero, List.drop_succ_cons, List.drop_zero]
  refine DP.runFk 2 (by simp (disch := first|omega|(simp only[ln];omega)) [runDf.eq_def, runF1, runF2, stepF.eq_def, updo.eq_def, hupo.eq_def, opSto1.eq_def, List.take_succ_cons, List.take_zero, idf_Wd', idf_numS, cells_numS, numS_fold, idf_numI, cells_numI, numI_fold, Pt.av, Pt.cells, wdI]; rfl) fun fs3 hfs3 => ?_
  replace hfs3 : fs3.length = 2 := hfs3.trans rfl
  simp only [List.drop_succ_cons, List.drop_zero]
  refine DP.fcall (l1From_fc p.x.a p.x.b p.x.c p.x.d hp.1.1 hp.1.2.1 hp.1.2.2.1 hp.1.2.2.2) rfl rfl rfl hb170 (by simp (disch := first|omega|(simp only[ln];omega)) [idf_Wd', idf_numS, cells_numS, numS_fold, idf_numI, cells_numI, numI_fold, Pt.av, Pt.cells, wdI]) (by simp (disch := first|omega|(simp only[ln];omega))) (by simp) ?_
  simp only [updo]
  refine DP.runFk 2 (by simp (disch := first|omega|(simp only[ln];omega)) [runDf.eq_def, runF1, runF2, stepF.eq_def, updo.eq_def, hupo.eq_def, opSto1.eq_def, List.take_succ_cons, List.take_zero, idf_Wd', idf_numS, cells_numS, numS_fold, idf_numI, cells_numI, numI_fold, Pt.av, Pt.cells, wdI]; rfl) fun fs4 hfs4 => ?_
  replace hfs4 : fs4.length = 2 := hfs4.trans rfl
  simp only [List.drop_succ_cons, List.drop_zero]
  refine DP.fcall (l1From_fc p.y.a p.y.b p.y.c p.y.d hp.2.1.1 hp.2.1.2.1 hp.2.1.2.2.1 hp.2.1.2.2.2) rfl rfl rfl hb170 (by simp (disch := first|omega|(simp only[ln];omega)) [idf_Wd', idf_numS, cells_numS, numS_fold, idf_numI, cells_numI, numI_fold, Pt.av, Pt.cells, wdI]) (by simp (disch := first|omega|(simp only[ln];omega))) (by simp) ?_
  simp only [updo]
  refine DP.runFk 2 (by simp (disch := first|omega|(simp only[ln];omega)) [runDf.eq_def, runF1, runF2, stepF.eq_def, updo.eq_def, hupo.eq_def, opSto1.eq_def, List.take_succ_cons, List.take_zero, idf_Wd', idf_numS, cells_numS, numS_fold, idf_numI, cells_numI, numI_fold, Pt.av, Pt.cells, wdI]; rfl) fun fs5 hfs5 => ?_
  replace hfs5 : fs5.length = 2 := hfs5.trans rfl
  simp only [List.drop_succ_cons, List.drop_zero]
  refine DP.fcall (l1From_fc p.w.a p.w.b p.w.c p.w.d hp.2.2.1 hp.2.2.2.1 hp.2.2.2.2.1 hp.2.2.2.2.2) rfl rfl rfl hb170 (by simp (disch := first|omega|(simp only[ln];omega)) [idf_Wd', idf_numS, cells_numS, numS_fold, idf_numI, cells_numI, numI_fold, Pt.av, Pt.cells, wdI]) (by simp (disch := first|omega|(simp only[ln];omega))) (by simp) ?_
  simp only [updo]
  refine DP.runFk 1 (by simp (disch := first|omega|(simp only[ln];omega)) [runDf.eq_def, runF1, runF2, stepF.eq_def, updo.eq_def, hupo.eq_def, opSto1.eq_def, List.take_succ_cons, List.take_zero, idf_Wd', idf_numS, cells_numS, numS_fold, idf_numI, cells_numI, numI_fold, Pt.av, Pt.cells, wdI]; rfl) fun fs6 hfs6 => ?_
  replace hfs6 : fs6.length = 1 := hfs6.trans rfl
  simp only [List.drop_succ_cons, List.drop_zero]
  refine DQ.runF (m := 10) (by simp only [List.length_append, List.length_cons, List.length_nil, hfs3, hfs4, hfs5, hfs6]; omega) _ _ _ (by kernel_rfl) rfl (by simp (disch := first|omega|(simp only[ln];omega)) [runDf.eq_def, runF1, runF2, stepF.eq_def, updo.eq_def, hupo.eq_def, opSto1.eq_def, idf_Wd', idf_numS, cells_numS, numS_fold, idf_numI, cells_numI, numI_fold, Pt.av, Pt.cells, wdI]; rfl) ?_
  refine hK2 _ ?_
  refine AWP.ret ?_
  exact hK _ _ _ _ trivial ((Fin.mk (by simp [aRes, aResL, aRes1, idf_Wd', idf_numS, cells_numS, numS_fold, idf_numI, cells_numI, numI_fold, Pt.av, Pt.cells, wdI]; rfl)).cast (by rfl))

set_option maxHeartbeats 1000000 in
theorem spot_fc (p : Pt) (hp : p.ok) : FC Try.prog 84 [p.av] (spA p.x.v p.y.v p.w.v) := by
  
  refine FC.body Try.func84 rfl (by simp [idfL, idf, idfLL_iff, idf_Wd', idf_numS, cells_numS, numS_fold, idf_numI, cells_numI, numI_fold, Pt.av, Pt.cells, wdI]) (by simp [idfL, idf, spA, spC, idf_Wd']) 13 rfl fun nx K hK => ?_
  refine AWP.seqk fun K1 hK1 => ?_
  refine AWP.region (AOPS.all (by simp (disch := first|omega|(simp only[ln];omega)) [idf_Wd', idf_numS, cells_numS, numS_fold, idf_numI, cells_numI, numI_fold, Pt.av, Pt.cells, wdI]; rfl) ?_)
  refine hK1 _ ?_
  refine AWP.seqk fun K2 hK2 => ?_
  refine AWP.draw 10 Try.checked.mixed (by kernel_rfl) (by simp) ?_
  simp only [List.take_succ_cons, List.take_zero, List.drop_succ_cons, List.drop_zero]
  refine DP.runFk 2 (by simp (disch := first|omega|(simp only[ln];omega)) [runDf.eq_def, runF1, runF2, stepF.eq_def, updo.eq_def, hupo.eq_def, opSto1.eq_def, List.take_succ_cons, List.take_zero, idf_Wd', idf_numS, cells_numS, numS_fold, idf_numI, cells_numI, numI_fold, Pt.av, Pt.cells, wdI]; rfl) fun fs3 hfs3 => ?_
  replace hfs3 : fs3.length = 2 := hfs3.trans rfl
  simp only [List.drop_succ_cons, List.drop_zero]
  refine DP.fcall (wideNum_fc p.x.a p.x.b p.x.c p.x.d hp.1.1 hp.1.2.1 hp.1.2.2.1 hp.1.2.2.2) rfl rfl rfl hb91 (by simp (disch := first|omega|(simp only[ln];omega)) [idf_Wd', idf_numS, cells_numS, numS_fold, idf_numI, cells_numI, numI_fold, Pt.av, Pt.cells, wdI]) (by simp (disch := first|omega|(simp only[ln];omega))) (by simp) ?_
  simp only [updo]
  refine DP.runFk 2 (by simp (disch := first|omega|(simp only[ln];omega)) [runDf.eq_def, runF1, runF2, stepF.eq_def, updo.eq_def, hupo.eq_def, opSto1.eq_def, List.take_succ_cons, List.take_zero, idf_Wd', idf_numS, cells_numS, numS_fold, idf_numI, cells_numI, numI_fold, Pt.av, Pt.cells, wdI]; rfl) fun fs4 hfs4 => ?_
  replace hfs4 : fs4.length = 2 := hfs4.trans rfl
  simp only [List.drop_succ_cons, List.drop_zero]
  refine DP.fcall (wideNum_fc p.y.a p.y.b p.y.c p.y.d hp.2.1.1 hp.2.1.2.1 hp.2.1.2.2.1 hp.2.1.2.2.2) rfl rfl rfl hb91 (by simp (disch := first|omega|(simp only[ln];omega)) [idf_Wd', idf_numS, cells_numS, numS_fold, idf_numI, cells_numI, numI_fold, Pt.av, Pt.cells, wdI]) (by simp (disch := first|omega|(simp only[ln];omega))) (by simp) ?_
  simp only [updo]
  refine DP.runFk 2 (by simp (disch := first|omega|(simp only[ln];omega)) [runDf.eq_def, runF1, runF2, stepF.eq_def, updo.eq_def, hupo.eq_def, opSto1.eq_def, List.take_succ_cons, List.take_zero, idf_Wd', idf_numS, cells_numS, numS_fold, idf_numI, cells_numI, numI_fold, Pt.av, Pt.cells, wdI]; rfl) fun fs5 hfs5 => ?_
  replace hfs5 : fs5.length = 2 := hfs5.trans rfl
  simp only [List.drop_succ_cons, List.drop_zero]
  refine DP.fcall (wideNum_fc p.w.a p.w.b p.w.c p.w.d hp.2.2.1 hp.2.2.2.1 hp.2.2.2.2.1 hp.2.2.2.2.2) rfl rfl rfl hb91 (by simp (disch := first|omega|(simp only[ln];omega)) [idf_Wd', idf_numS, cells_numS, numS_fold, idf_numI, cells_numI, numI_fold, Pt.av, Pt.cells, wdI]) (by simp (disch := first|omega|(simp only[ln];omega))) (by simp) ?_
  simp only [updo]
  refine DP.runFk 1 (by simp (disch := first|omega|(simp only[ln];omega)) [runDf.eq_def, runF1, runF2, stepF.eq_def, updo.eq_def, hupo.eq_def, opSto1.eq_def, List.take_succ_cons, List.take_zero, idf_Wd', idf_numS, cells_numS, numS_fold, idf_numI, cells_numI, numI_fold, Pt.av, Pt.cells, wdI]; rfl) fun fs6 hfs6 => ?_
  replace hfs6 : fs6.length = 1 := hfs6.trans rfl
  simp only [List.drop_succ_cons, List.drop_zero]
  refine DQ.runF (m := 10) (by simp only [List.length_append, List.length_cons, List.length_nil, hfs3, hfs4, hfs5, hfs6]; omega) _ _ _ (by kernel_rfl) rfl (by simp (disch := first|omega|(simp only[ln];omega)) [runDf.eq_def, runF1, runF2, stepF.eq_def, updo.eq_def, hupo.eq_def, opSto1.eq_def, idf_Wd', idf_numS, cells_numS, numS_fold, idf_numI, cells_numI, numI_fold, Pt.av, Pt.cells, wdI]; rfl) ?_
  refine hK2 _ ?_
  refine AWP.ret ?_
  exact hK _ _ _ _ trivial ((Fin.mk (by simp [aRes, aResL, aRes1, idf_Wd', idf_numS, cells_numS, numS_fold, idf_numI, cells_numI, numI_fold, Pt.av, Pt.cells, wdI]; rfl)).cast (by rfl))

set_option maxHeartbeats 1000000 in
theorem l3Small_fc {k : Nat} {x y w : Int} (bx : Bg k x) (bY : Bg k y) (bw : Bg k w) (hk : k ≤ 68719476736) : FC Try.prog 167 [l3A x y w] (.bool (sm x y w)) := by
  refine FC.body Try.func167 rfl (by simp [idfL, idf, idfLL_iff, idf_Wd', idf_numS, cells_numS, numS_fold, idf_numI, cells_numI, numI_fold, l3A, l3C]) (by simp [idfL, idf, idfLL_iff, idf_Wd', idf_numS, cells_numS, numS_fold, idf_numI, cells_numI, numI_fold, l3A, l3C]) 22 rfl fun nx K hK => ?_
  refine AWP.seqk fun K1 hK1 => ?_
  refine AWP.region (AOPS.all (by simp (disch := first|omega|(simp only[ln];omega)) [idf_Wd', idf_numS, cells_numS, numS_fold, idf_numI, cells_numI, numI_fold, l3A, l3C]; rfl) ?_)
  refine hK1 _ ?_
  refine AWP.seqk fun K2 hK2 => ?_
  by_cases hx : bitLen x.natAbs ≤ 80
  · have c1 : decide ((bitLen x.natAbs : Int) ≤ 80) = true := by simp; omega
    by_cases hy : bitLen y.natAbs ≤ 80
    · have c2 : decide ((bitLen y.natAbs : Int) ≤ 80) = true := by simp; omega
      refine AWP.region ?_
      refine AOPS.runk 3 (by simp (disch := first|omega|(simp only[ln];omega)) [List.take_succ_cons, List.take_zero, idf_Wd', idf_numS, cells_numS, numS_fold, idf_numI, cells_numI, numI_fold, l3A, l3C, c1, c2]; rfl) ?_
      simp only [List.drop_succ_cons, List.drop_zero]
      refine AOPS.fcall (l1Bits_fc bx hk) rfl rfl rfl hb211 (by simp (disch := first|omega|(simp only[ln];omega)) [idf_Wd', c1, c2, idf_numS, cells_numS, numS_fold, idf_numI, cells_numI, numI_fold, l3A, l3C]) (by simp (disch := first|omega|(simp only[ln];omega)) [c1, c2]) (by simp) ?_
      simp only [puts_some, updo]
      refine AOPS.runk 5 (by simp (disch := first|omega|(simp only[ln];omega)) [List.take_succ_cons, List.take_zero, idf_Wd', idf_numS, cells_numS, numS_fold, idf_numI, cells_numI, numI_fold, l3A, l3C, c1, c2]; rfl) ?_
      simp only [List.drop_succ_cons, List.drop_zero]
      refine AOPS.fcall (l1Bits_fc bY hk) rfl rfl rfl hb211 (by simp (disch := first|omega|(simp only[ln];omega)) [idf_Wd', c1, c2, idf_numS, cells_numS, numS_fold, idf_numI, cells_numI, numI_fold, l3A, l3C]) (by simp (disch := first|omega|(simp only[ln];omega)) [c1, c2]) (by simp) ?_
      simp only [puts_some, updo]
      refine AOPS.runk 6 (by simp (disch := first|omega|(simp only[ln];omega)) [List.take_succ_cons, List.take_zero, idf_Wd', idf_numS, cells_numS, numS_fold, idf_numI, cells_numI, numI_fold, l3A, l3C, c1, c2]; rfl) ?_
      simp only [List.drop_succ_cons, List.drop_zero]
      refine AOPS.fcall (l1Bits_fc bw hk) rfl rfl rfl hb211 (by simp (disch := first|omega|(simp only[ln];omega)) [idf_Wd', c1, c2, idf_numS, cells_numS, numS_fold, idf_numI, cells_numI, numI_fold, l3A, l3C]) (by simp (disch := first|omega|(simp only[ln];omega)) [c1, c2]) (by simp) ?_
      simp only [puts_some, updo]
      refine AOPS.all (by simp (disch := first|omega|(simp only[ln];omega)) [idf_Wd', idf_numS, cells_numS, numS_fold, idf_numI, cells_numI, numI_fold, l3A, l3C, c1, c2]; rfl) ?_
      refine hK2 _ ?_
      refine AWP.ret ?_
      exact hK _ _ _ _ trivial ((Fin.mk (by simp [aRes, aResL, aRes1, idf_Wd', idf_numS, cells_numS, numS_fold, idf_numI, cells_numI, numI_fold, l3A, l3C]; rfl)).cast (by simp [sm, hx, hy]; try omega))
    · have c2 : decide ((bitLen y.natAbs : Int) ≤ 80) = false := by simp; omega
      refine AWP.region ?_
      refine AOPS.runk 3 (by simp (disch := first|omega|(simp only[ln];omega)) [List.take_succ_cons, List.take_zero, idf_Wd', idf_numS, cells_numS, numS_fold, idf_numI, cells_numI, numI_fold, l3A, l3C, c1, c2]; rfl) ?_
      simp only [List.drop_succ_cons, List.drop_zero]
      refine AOPS.fcall (l1Bits_fc bx hk) rfl rfl rfl hb211 (by simp (disch := first|omega|(simp only[ln];omega)) [idf_Wd', c1, c2, idf_numS, cells_numS, numS_fold, idf_numI, cells_numI, numI_fold, l3A, l3C]) (by simp (disch := first|omega|(simp only[ln];omega)) [c1, c2]) (by simp) ?_
      simp only [puts_some, updo]
      refine AOPS.runk 5 (by simp (disch := first|omega|(simp only[ln];omega)) [List.take_succ_cons, List.take_zero, idf_Wd', idf_numS, cells_numS, numS_fold, idf_numI, cells_numI, numI_fold, l3A, l3C, c1, c2]; rfl) ?_
      simp only [List.drop_succ_cons, List.drop_zero]
      refine AOPS.fcall (l1Bits_fc bY hk) rfl rfl rfl hb211 (by simp (disch := first|omega|(simp only[ln];omega)) [idf_Wd', c1, c2, idf_numS, cells_numS, numS_fold, idf_numI, cells_numI, numI_fold, l3A, l3C]) (by simp (disch := first|omega|(simp only[ln];omega)) [c1, c2]) (by simp) ?_
      simp only [puts_some, updo]
      refine AOPS.all (by simp (disch := first|omega|(simp only[ln];omega)) [idf_Wd', idf_numS, cells_numS, numS_fold, idf_numI, cells_numI, numI_fold, l3A, l3C, c1, c2]; rfl) ?_
      refine hK2 _ ?_
      refine AWP.ret ?_
      exact hK _ _ _ _ trivial ((Fin.mk (by simp [aRes, aResL, aRes1, idf_Wd', idf_numS, cells_numS, numS_fold, idf_numI, cells_numI, numI_fold, l3A, l3C]; rfl)).cast (by simp [sm, hx, hy]))
  · have c1 : decide ((bitLen x.natAbs : Int) ≤ 80) = false := by simp; omega
    refine AWP.region ?_
    refine AOPS.runk 3 (by simp (disch := first|omega|(simp only[ln];omega)) [List.take_succ_cons, List.take_zero, idf_Wd', idf_numS, cells_numS, numS_fold, idf_numI, cells_numI, numI_fold, l3A, l3C, c1]; rfl) ?_
    simp only [List.drop_succ_cons, List.drop_zero]
    refine AOPS.fcall (l1Bits_fc bx hk) rfl rfl rfl hb211 (by simp (disch := first|omega|(simp only[ln];omega)) [idf_Wd', c1, idf_numS, cells_numS, numS_fold, idf_numI, cells_numI, numI_fold, l3A, l3C]) (by simp (disch := first|omega|(simp only[ln];omega)) [c1]) (by simp) ?_
    simp only [puts_some, updo]
    refine AOPS.all (by simp (disch := first|omega|(simp only[ln];omega)) [idf_Wd', idf_numS, cells_numS, numS_fold, idf_numI, cells_numI, numI_fold, l3A, l3C, c1]; rfl) ?_
    refine hK2 _ ?_
    refine AWP.ret ?_
    exact hK _ _ _ _ trivial ((Fin.mk (by simp [aRes, aResL, aRes1, idf_Wd', idf_numS, cells_numS, numS_fold, idf_numI, cells_numI, numI_fold, l3A, l3C]; rfl)).cast (by simp [sm, hx]))

end Go.Proofs.Ytmaebeknmiomnaa

/- Walks: are points right? (both). -/
namespace Go.Proofs.Ytmaebeknmiomnaa
open Go Go.RowKit
set_option linter.unusedSimpArgs false
set_option linter.unusedVariables false
set_option maxRecDepth 100000
attribute [local simp] List.getElem?_cons_zero List.getElem?_cons_succ List.getElem?_toArray runOps stepOp.eq_def agd.eq_def dstOk.eq_def opVal.eq_def opNew.eq_def opSto.eq_def ev.eq_def cv.eq_def puts_some puts_none upd_ap lst.eq_def aBin.eq_def aUn.eq_def aBi_str aBi_isl aBi_osl aBi_nsl aBi_max aBi_min aBi_max3 aConv.eq_def aLd.eq_def aLoad.eq_def aField.eq_def aFld.eq_def aIdx_isl aIdx_osl aSlc_isl aSlc_osl aSlc_str aSlc_nsl bnd.eq_def evs_nil evs_cons aBuild.eq_def aFill splice.eq_def cells_agg cells_int cells_bool cells_str cells_nil cells_nsl cells_isl cells_osl cells_ptr cells_ip cells_fn cells_Wd one_int one_bool one_str one_nil one_nsl one_isl one_osl one_ptr one_ip one_fn one_Wd aSets hupd_eq hupd_ne wrap_i64s wrap_u64s wrap_u32s wrap_u8s wd_getD wd_set wd_len wd_replicate wd_one wd_fold fz_osl hupd_same aSix.eq_def aEqS.eq_def aEqB_bool aEqB_nsl aEqB_nil
attribute [local simp] szT2 byT2 agT2 unT2 zoT2 szT3 byT3 agT3 unT3 zoT3 szT4 byT4 agT4 unT4 zoT4 szT26 byT26 agT26 flT26 fdT26_0 fdT26_1 fdT26_2 fdT26_3 zoT26 szT28 byT28 agT28 flT28 fdT28_0 fdT28_1 fdT28_2 zoT28 szT80 byT80 agT80 elT80 unT80 zoT80 szT111 byT111 agT111 elT111 unT111 zoT111 szT113 byT113 agT113 flT113 fdT113_0 fdT113_1 zoT113 szT115 byT115 agT115 flT115 fdT115_0 fdT115_1 fdT115_2 zoT115 szT117 byT117 agT117 elT117 unT117 zoT117 szT119 byT119 agT119 flT119 fdT119_0 fdT119_1 zoT119 szT121 byT121 agT121 flT121 fdT121_0 fdT121_1 fdT121_2 zoT121 szT200 byT200 agT200 elT200 unT200 zoT200

set_option maxHeartbeats 2000000 in
theorem pointOkS_fc (p : Pt) (hp : p.ok) : FC Try.prog 81 [p.av] (.bool p.good) := by
  have bX := W4.bg hp.1
  have bY := W4.bg hp.2.1
  have bW := W4.bg hp.2.2
  obtain ⟨X, hX⟩ : ∃ X, p.x.v = X := ⟨_, rfl⟩
  obtain ⟨Y, hY⟩ : ∃ Y, p.y.v = Y := ⟨_, rfl⟩
  obtain ⟨W, hW⟩ : ∃ W, p.w.v = W := ⟨_, rfl⟩
  have hg : p.good = (decide (0 < W) && sm X Y W && decide (Nat.gcd (Int.gcd X Y) W.natAbs = 1)) := by unfold Pt.good; rw [hX, hY, hW]
  rw [hX] at bX
  rw [hY] at bY
  rw [hW] at bW
  have hs1 : 0 < W → FC Try.prog 166 [numS W] (.int .i64 1) := fun h => by
    have h1 := l1Sign_fc W
    rw [if_neg (by omega), if_pos h] at h1; exact h1
  have hs0 : ¬ 0 < W → ∃ c : Int, FC Try.prog 166 [numS W] (.int .i64 c) ∧ c ≤ 0 := fun h => ⟨_, l1Sign_fc W, by split <;> (try split) <;> omega⟩
  have bG1 : Bg 4 ((Int.gcd X Y : Nat) : Int) := Bg.gcd bX.abs bY.abs
  have bG : Bg 4 ((Nat.gcd (Int.gcd X Y) W.natAbs : Nat) : Int) := Bg.gcd bG1 bW.abs
  obtain ⟨cc, hcf, hce⟩ : ∃ c : Int, FC Try.prog 168 [numS ((Nat.gcd (Int.gcd X Y) W.natAbs : Nat) : Int), numS 1] (.int .i64 c) ∧ (c == 0) = decide (Nat.gcd (Int.gcd X Y) W.natAbs = 1) := ⟨_, l1Cmp_fc bG (Bg.i64 (n := 1) (by omega) (by omega)) (by omega) (by omega), by rw [one_cmp]; congr 1; apply propext; omega⟩
  have hl3 := l3Of_fc p hp
  rw [hX, hY, hW] at hl3
  have hg2 : FC Try.prog 169 [numS ((Int.gcd X Y : Nat) : Int), numS W] (numS ((Nat.gcd (Int.gcd X Y) W.natAbs : Nat) : Int)) := by
    have h := l1Gcd_fc ((Int.gcd X Y : Nat) : Int) W bG1 bW (by omega)
    have e : Int.gcd ((Int.gcd X Y : Nat) : Int) W = Nat.gcd (Int.gcd X Y) W.natAbs := by simp [Int.gcd]
    rw [e] at h; exact h
  refine FC.body Try.func81 rfl (by simp [idfL, idf, idfLL_iff, idf_Wd', idf_numS, cells_numS, numS_fold, idf_numI, cells_numI, numI_fold, Pt.av, Pt.cells, l3A, l3C]) (by simp [idfL, idf, idfLL_iff, idf_Wd', idf_numS, cells_numS, numS_fold, idf_numI, cells_numI, numI_fold, Pt.av, Pt.cells, l3A, l3C]) 27 rfl fun nx K hK => ?_
  refine AWP.seqk fun K1 hK1 => ?_
  refine AWP.region (AOPS.all (by simp (disch := first|omega|(simp only[ln];omega)) [idf_Wd', idf_numS, cells_numS, numS_fold, idf_numI, cells_numI, numI_fold, Pt.av, Pt.cells, l3A, l3C]; rfl) ?_)
  refine hK1 _ ?_
  refine AWP.seqk fun K2 hK2 => ?_
  refine AWP.region ?_
  refine AOPS.runk 1 (by simp (disch := first|omega|(simp only[ln];omega)) [List.take_succ_cons, List.take_zero, idf_Wd', idf_numS, cells_numS, numS_fold, idf_numI, cells_numI, numI_fold, Pt.av, Pt.cells, l3A, l3C]; rfl) ?_
  simp only [List.drop_succ_cons, List.drop_zero]
  refine AOPS.fcall (hl3) rfl rfl rfl hb83 (by simp (disch := first|omega|(simp only[ln];omega)) [idf_Wd', idf_numS, cells_numS, numS_fold, idf_numI, cells_numI, numI_fold, Pt.av, Pt.cells, l3A, l3C]) (by simp (disch := first|omega|(simp only[ln];omega))) (by simp) ?_
  simp only [puts_some, updo]
  refine AOPS.all (by simp (disch := first|omega|(simp only[ln];omega)) [idf_Wd', idf_numS, cells_numS, numS_fold, idf_numI, cells_numI, numI_fold, Pt.av, Pt.cells, l3A, l3C]; rfl) ?_
  refine hK2 _ ?_
  refine AWP.seqk fun K3 hK3 => ?_
  by_cases hw : 0 < W
  · cases hsm : sm X Y W
    · refine AWP.draw 21 Try.checked.mixed (by kernel_rfl) (by simp) ?_
      simp only [List.take_succ_cons, List.take_zero, List.drop_succ_cons, List.drop_zero]
      refine DP.runFk 2 (by simp (disch := first|omega|(simp only[ln];omega)) [runDf.eq_def, runF1, runF2, stepF.eq_def, updo.eq_def, hupo.eq_def, opSto1.eq_def, List.take_succ_cons, List.take_zero, idf_Wd', idf_numS, cells_numS, numS_fold, idf_numI, cells_numI, numI_fold, Pt.av, Pt.cells, l3A, l3C, hsm]; rfl) fun fs4 hfs4 => ?_
      replace hfs4 : fs4.length = 2 := hfs4.trans rfl
      simp only [List.drop_succ_cons, List.drop_zero]
      refine DP.fcall (hs1 hw) rfl rfl rfl hb166 (by simp (disch := first|omega|(simp only[ln];omega)) [idf_Wd', hsm, idf_numS, cells_numS, numS_fold, idf_numI, cells_numI, numI_fold, Pt.av, Pt.cells, l3A, l3C]) (by simp (disch := first|omega|(simp only[ln];omega)) [hsm]) (by simp) ?_
      simp only [updo]
      refine DP.runFk 3 (by simp (disch := first|omega|(simp only[ln];omega)) [runDf.eq_def, runF1, runF2, stepF.eq_def, updo.eq_def, hupo.eq_def, opSto1.eq_def, List.take_succ_cons, List.take_zero, idf_Wd', idf_numS, cells_numS, numS_fold, idf_numI, cells_numI, numI_fold, Pt.av, Pt.cells, l3A, l3C, hsm]; rfl) fun fs5 hfs5 => ?_
      replace hfs5 : fs5.length = 3 := hfs5.trans rfl
      simp only [List.drop_succ_cons, List.drop_zero]
      refine DP.fcall (l3Small_fc bX bY bW (by omega)) rfl rfl rfl hb167 (by simp (disch := first|omega|(simp only[ln];omega)) [idf_Wd', hsm, idf_numS, cells_numS, numS_fold, idf_numI, cells_numI, numI_fold, Pt.av, Pt.cells, l3A, l3C]) (by simp (disch := first|omega|(simp only[ln];omega)) [hsm]) (by simp) ?_
      simp only [updo]
      refine DP.runFk 14 (by simp (disch := first|omega|(simp only[ln];omega)) [runDf.eq_def, runF1, runF2, stepF.eq_def, updo.eq_def, hupo.eq_def, opSto1.eq_def, List.take_succ_cons, List.take_zero, idf_Wd', idf_numS, cells_numS, numS_fold, idf_numI, cells_numI, numI_fold, Pt.av, Pt.cells, l3A, l3C, hsm]; rfl) fun fs6 hfs6 => ?_
      replace hfs6 : fs6.length = 14 := hfs6.trans rfl
      simp only [List.drop_succ_cons, List.drop_zero]
      refine DQ.runF (m := 21) (by simp only [List.length_append, List.length_cons, List.length_nil, hfs4, hfs5, hfs6]; omega) _ _ _ (by kernel_rfl) rfl (by simp (disch := first|omega|(simp only[ln];omega)) [runDf.eq_def, runF1, runF2, stepF.eq_def, updo.eq_def, hupo.eq_def, opSto1.eq_def, idf_Wd', idf_numS, cells_numS, numS_fold, idf_numI, cells_numI, numI_fold, Pt.av, Pt.cells, l3A, l3C, hsm]; rfl) ?_
      refine hK3 _ ?_
      refine AWP.ret ?_
      exact hK _ _ _ _ trivial ((Fin.mk (by simp [aRes, aResL, aRes1, idf_Wd', idf_numS, cells_numS, numS_fold, idf_numI, cells_numI, numI_fold, Pt.av, Pt.cells, l3A, l3C]; rfl)).cast (by rw [hg]; simp [hw, hsm]))
    · refine AWP.draw 21 Try.checked.mixed (by kernel_rfl) (by simp) ?_
      simp only [List.take_succ_cons, List.take_zero, List.drop_succ_cons, List.drop_zero]
      refine DP.runFk 2 (by simp (disch := first|omega|(simp only[ln];omega)) [runDf.eq_def, runF1, runF2, stepF.eq_def, updo.eq_def, hupo.eq_def, opSto1.eq_def, List.take_succ_cons, List.take_zero, idf_Wd', idf_numS, cells_numS, numS_fold, idf_numI, cells_numI, numI_fold, Pt.av, Pt.cells, l3A, l3C, hsm]; rfl) fun fs7 hfs7 => ?_
      replace hfs7 : fs7.length = 2 := hfs7.trans rfl
      simp only [List.drop_succ_cons, List.drop_zero]
      refine DP.fcall (hs1 hw) rfl rfl rfl hb166 (by simp (disch := first|omega|(simp only[ln];omega)) [idf_Wd', hsm, idf_numS, cells_numS, numS_fold, idf_numI, cells_numI, numI_fold, Pt.av, Pt.cells, l3A, l3C]) (by simp (disch := first|omega|(simp only[ln];omega)) [hsm]) (by simp) ?_
      simp only [updo]
      refine DP.runFk 3 (by simp (disch := first|omega|(simp only[ln];omega)) [runDf.eq_def, runF1, runF2, stepF.eq_def, updo.eq_def, hupo.eq_def, opSto1.eq_def, List.take_succ_cons, List.take_zero, idf_Wd', idf_numS, cells_numS, numS_fold, idf_numI, cells_numI, numI_fold, Pt.av, Pt.cells, l3A, l3C, hsm]; rfl) fun fs8 hfs8 => ?_
      replace hfs8 : fs8.length = 3 := hfs8.trans rfl
      simp only [List.drop_succ_cons, List.drop_zero]
      refine DP.fcall (l3Small_fc bX bY bW (by omega)) rfl rfl rfl hb167 (by simp (disch := first|omega|(simp only[ln];omega)) [idf_Wd', hsm, idf_numS, cells_numS, numS_fold, idf_numI, cells_numI, numI_fold, Pt.av, Pt.cells, l3A, l3C]) (by simp (disch := first|omega|(simp only[ln];omega)) [hsm]) (by simp) ?_
      simp only [updo]
      refine DP.runFk 6 (by simp (disch := first|omega|(simp only[ln];omega)) [runDf.eq_def, runF1, runF2, stepF.eq_def, updo.eq_def, hupo.eq_def, opSto1.eq_def, List.take_succ_cons, List.take_zero, idf_Wd', idf_numS, cells_numS, numS_fold, idf_numI, cells_numI, numI_fold, Pt.av, Pt.cells, l3A, l3C, hsm]; rfl) fun fs9 hfs9 => ?_
      replace hfs9 : fs9.length = 6 := hfs9.trans rfl
      simp only [List.drop_succ_cons, List.drop_zero]
      refine DP.fcall (l1Gcd_fc X Y bX bY (by omega)) rfl rfl rfl hb169 (by simp (disch := first|omega|(simp only[ln];omega)) [idf_Wd', hsm, idf_numS, cells_numS, numS_fold, idf_numI, cells_numI, numI_fold, Pt.av, Pt.cells, l3A, l3C]) (by simp (disch := first|omega|(simp only[ln];omega)) [hsm]) (by simp) ?_
      simp only [updo]
      refine DP.runFk 2 (by simp (disch := first|omega|(simp only[ln];omega)) [runDf.eq_def, runF1, runF2, stepF.eq_def, updo.eq_def, hupo.eq_def, opSto1.eq_def, List.take_succ_cons, List.take_zero, idf_Wd', idf_numS, cells_numS, numS_fold, idf_numI, cells_numI, numI_fold, Pt.av, Pt.cells, l3A, l3C, hsm]; rfl) fun fs10 hfs10 => ?_
      replace hfs10 : fs10.length = 2 := hfs10.trans rfl
      simp only [List.drop_succ_cons, List.drop_zero]
      refine DP.fcall (hg2) rfl rfl rfl hb169 (by simp (disch := first|omega|(simp only[ln];omega)) [idf_Wd', hsm, idf_numS, cells_numS, numS_fold, idf_numI, cells_numI, numI_fold, Pt.av, Pt.cells, l3A, l3C]) (by simp (disch := first|omega|(simp only[ln];omega)) [hsm]) (by simp) ?_
      simp only [updo]
      refine DP.fcall (l1Int_fc 1 (by omega) (by omega)) rfl rfl rfl hb106 (by simp (disch := first|omega|(simp only[ln];omega)) [idf_Wd', hsm, idf_numS, cells_numS, numS_fold, idf_numI, cells_numI, numI_fold, Pt.av, Pt.cells, l3A, l3C]) (by simp (disch := first|omega|(simp only[ln];omega)) [hsm]) (by simp) ?_
      simp only [updo]
      refine DP.fcall (hcf) rfl rfl rfl hb168 (by simp (disch := first|omega|(simp only[ln];omega)) [idf_Wd', hsm, idf_numS, cells_numS, numS_fold, idf_numI, cells_numI, numI_fold, Pt.av, Pt.cells, l3A, l3C]) (by simp (disch := first|omega|(simp only[ln];omega)) [hsm]) (by simp) ?_
      simp only [updo]
      refine DP.runFk 2 (by simp (disch := first|omega|(simp only[ln];omega)) [runDf.eq_def, runF1, runF2, stepF.eq_def, updo.eq_def, hupo.eq_def, opSto1.eq_def, List.take_succ_cons, List.take_zero, idf_Wd', idf_numS, cells_numS, numS_fold, idf_numI, cells_numI, numI_fold, Pt.av, Pt.cells, l3A, l3C, hsm]; rfl) fun fs11 hfs11 => ?_
      replace hfs11 : fs11.length = 2 := hfs11.trans rfl
      simp only [List.drop_succ_cons, List.drop_zero]
      refine DQ.runF (m := 21) (by simp only [List.length_append, List.length_cons, List.length_nil, hfs7, hfs8, hfs9, hfs10, hfs11]; omega) _ _ _ (by kernel_rfl) rfl (by simp (disch := first|omega|(simp only[ln];omega)) [runDf.eq_def, runF1, runF2, stepF.eq_def, updo.eq_def, hupo.eq_def, opSto1.eq_def, idf_Wd', idf_numS, cells_numS, numS_fold, idf_numI, cells_numI, numI_fold, Pt.av, Pt.cells, l3A, l3C, hsm]; rfl) ?_
      refine hK3 _ ?_
      refine AWP.ret ?_
      exact hK _ _ _ _ trivial ((Fin.mk (by simp [aRes, aResL, aRes1, idf_Wd', idf_numS, cells_numS, numS_fold, idf_numI, cells_numI, numI_fold, Pt.av, Pt.cells, l3A, l3C]; rfl)).cast (by rw [hg]; simp [hw, hsm, hce]))
  · obtain ⟨c0, hc0, hc1⟩ := hs0 hw
    have c1 : decide (0 < c0) = false := by simp; omega
    refine AWP.draw 21 Try.checked.mixed (by kernel_rfl) (by simp) ?_
    simp only [List.take_succ_cons, List.take_zero, List.drop_succ_cons, List.drop_zero]
    refine DP.runFk 2 (by simp (disch := first|omega|(simp only[ln];omega)) [runDf.eq_def, runF1, runF2, stepF.eq_def, updo.eq_def, hupo.eq_def, opSto1.eq_def, List.take_succ_cons, List.take_zero, idf_Wd', idf_numS, cells_numS, numS_fold, idf_numI, cells_numI, numI_fold, Pt.av, Pt.cells, l3A, l3C, c1]; rfl) fun fs12 hfs12 => ?_
    replace hfs12 : fs12.length = 2 := hfs12.trans rfl
    simp only [List.drop_succ_cons, List.drop_zero]
    refine DP.fcall (hc0) rfl rfl rfl hb166 (by simp (disch := first|omega|(simp only[ln];omega)) [idf_Wd', c1, idf_numS, cells_numS, numS_fold, idf_numI, cells_numI, numI_fold, Pt.av, Pt.cells, l3A, l3C]) (by simp (disch := first|omega|(simp only[ln];omega)) [c1]) (by simp) ?_
    simp only [updo]
    refine DP.runFk 18 (by simp (disch := first|omega|(simp only[ln];omega)) [runDf.eq_def, runF1, runF2, stepF.eq_def, updo.eq_def, hupo.eq_def, opSto1.eq_def, List.take_succ_cons, List.take_zero, idf_Wd', idf_numS, cells_numS, numS_fold, idf_numI, cells_numI, numI_fold, Pt.av, Pt.cells, l3A, l3C, c1]; rfl) fun fs13 hfs13 => ?_
    replace hfs13 : fs13.length = 18 := hfs13.trans rfl
    simp only [List.drop_succ_cons, List.drop_zero]
    refine DQ.runF (m := 21) (by simp only [List.length_append, List.length_cons, List.length_nil, hfs12, hfs13]; omega) _ _ _ (by kernel_rfl) rfl (by simp (disch := first|omega|(simp only[ln];omega)) [runDf.eq_def, runF1, runF2, stepF.eq_def, updo.eq_def, hupo.eq_def, opSto1.eq_def, idf_Wd', idf_numS, cells_numS, numS_fold, idf_numI, cells_numI, numI_fold, Pt.av, Pt.cells, l3A, l3C, c1]; rfl) ?_
    refine hK3 _ ?_
    refine AWP.ret ?_
    exact hK _ _ _ _ trivial ((Fin.mk (by simp [aRes, aResL, aRes1, idf_Wd', idf_numS, cells_numS, numS_fold, idf_numI, cells_numI, numI_fold, Pt.av, Pt.cells, l3A, l3C]; rfl)).cast (by rw [hg]; simp [hw]))

set_option maxHeartbeats 2000000 in
theorem pointOkI_fc (p : Pt) (hp : p.ok) : FC Try.prog 19 [p.av] (.bool p.good) := by
  have bX := W4.bg hp.1
  have bY := W4.bg hp.2.1
  have bW := W4.bg hp.2.2
  obtain ⟨X, hX⟩ : ∃ X, p.x.v = X := ⟨_, rfl⟩
  obtain ⟨Y, hY⟩ : ∃ Y, p.y.v = Y := ⟨_, rfl⟩
  obtain ⟨W, hW⟩ : ∃ W, p.w.v = W := ⟨_, rfl⟩
  have hg : p.good = (decide (0 < W) && sm X Y W && decide (Nat.gcd (Int.gcd X Y) W.natAbs = 1)) := by unfold Pt.good; rw [hX, hY, hW]
  rw [hX] at bX
  rw [hY] at bY
  rw [hW] at bW
  have hs1 : 0 < W → FC Try.prog 85 [numI W] (.int .i64 1) := fun h => by
    have h1 := sign_fc W
    rw [if_neg (by omega), if_pos h] at h1; exact h1
  have hs0 : ¬ 0 < W → ∃ c : Int, FC Try.prog 85 [numI W] (.int .i64 c) ∧ c ≤ 0 := fun h => ⟨_, sign_fc W, by split <;> (try split) <;> omega⟩
  have bG1 : Bg 4 ((Int.gcd X Y : Nat) : Int) := Bg.gcd bX.abs bY.abs
  have bG : Bg 4 ((Nat.gcd (Int.gcd X Y) W.natAbs : Nat) : Int) := Bg.gcd bG1 bW.abs
  obtain ⟨cc, hcf, hce⟩ : ∃ c : Int, FC Try.prog 88 [numI ((Nat.gcd (Int.gcd X Y) W.natAbs : Nat) : Int), numI 1] (.int .i64 c) ∧ (c == 0) = decide (Nat.gcd (Int.gcd X Y) W.natAbs = 1) := ⟨_, cmp_fc bG (Bg.i64 (n := 1) (by omega) (by omega)) (by omega) (by omega), by rw [one_cmp]; congr 1; apply propext; omega⟩
  have hl3 := spot_fc p hp
  rw [hX, hY, hW] at hl3
  have hg2 : FC Try.prog 87 [.isl [numC X, numC Y, numC W]] (numI ((Nat.gcd (Int.gcd X Y) W.natAbs : Nat) : Int)) := by
    have h := gcd_fc (j := 4) [X, Y, W] (by intro z hz; simp only [List.mem_cons, List.not_mem_nil, or_false] at hz; rcases hz with rfl | rfl | rfl <;> assumption) (by omega) (by simp)
    rw [gcdL_three] at h; exact h
  have hms := max_sm X Y W
  refine FC.body Try.func19 rfl (by simp [idfL, idf, idfLL_iff, idf_Wd', idf_numS, cells_numS, numS_fold, idf_numI, cells_numI, numI_fold, Pt.av, Pt.cells, spA, spC, numC]) (by simp [idfL, idf, idfLL_iff, idf_Wd', idf_numS, cells_numS, numS_fold, idf_numI, cells_numI, numI_fold, Pt.av, Pt.cells, spA, spC, numC]) 36 rfl fun nx K hK => ?_
  refine AWP.seqk fun K1 hK1 => ?_
  refine AWP.region (AOPS.all (by simp (disch := first|omega|(simp only[ln];omega)) [idf_Wd', idf_numS, cells_numS, numS_fold, idf_numI, cells_numI, numI_fold, Pt.av, Pt.cells, spA, spC, numC]; rfl) ?_)
  refine hK1 _ ?_
  refine AWP.seqk fun K2 hK2 => ?_
  refine AWP.region ?_
  refine AOPS.runk 1 (by simp (disch := first|omega|(simp only[ln];omega)) [List.take_succ_cons, List.take_zero, idf_Wd', idf_numS, cells_numS, numS_fold, idf_numI, cells_numI, numI_fold, Pt.av, Pt.cells, spA, spC, numC]; rfl) ?_
  simp only [List.drop_succ_cons, List.drop_zero]
  refine AOPS.fcall (hl3) rfl rfl rfl hb84 (by simp (disch := first|omega|(simp only[ln];omega)) [idf_Wd', idf_numS, cells_numS, numS_fold, idf_numI, cells_numI, numI_fold, Pt.av, Pt.cells, spA, spC, numC]) (by simp (disch := first|omega|(simp only[ln];omega))) (by simp) ?_
  simp only [puts_some, updo]
  refine AOPS.all (by simp (disch := first|omega|(simp only[ln];omega)) [idf_Wd', idf_numS, cells_numS, numS_fold, idf_numI, cells_numI, numI_fold, Pt.av, Pt.cells, spA, spC, numC]; rfl) ?_
  refine hK2 _ ?_
  refine AWP.seqk fun K3 hK3 => ?_
  by_cases hw : 0 < W
  · cases hsm : sm X Y W
    · rw [hsm] at hms
      refine AWP.draw 30 Try.checked.mixed (by kernel_rfl) (by simp) ?_
      simp only [List.take_succ_cons, List.take_zero, List.drop_succ_cons, List.drop_zero]
      refine DP.runFk 2 (by simp (disch := first|omega|(simp only[ln];omega)) [runDf.eq_def, runF1, runF2, stepF.eq_def, updo.eq_def, hupo.eq_def, opSto1.eq_def, List.take_succ_cons, List.take_zero, idf_Wd', idf_numS, cells_numS, numS_fold, idf_numI, cells_numI, numI_fold, Pt.av, Pt.cells, spA, spC, numC, hms]; rfl) fun fs4 hfs4 => ?_
      replace hfs4 : fs4.length = 2 := hfs4.trans rfl
      simp only [List.drop_succ_cons, List.drop_zero]
      refine DP.fcall (hs1 hw) rfl rfl rfl hb85 (by simp (disch := first|omega|(simp only[ln];omega)) [idf_Wd', hms, idf_numS, cells_numS, numS_fold, idf_numI, cells_numI, numI_fold, Pt.av, Pt.cells, spA, spC, numC]) (by simp (disch := first|omega|(simp only[ln];omega)) [hms]) (by simp) ?_
      simp only [updo]
      refine DP.runFk 4 (by simp (disch := first|omega|(simp only[ln];omega)) [runDf.eq_def, runF1, runF2, stepF.eq_def, updo.eq_def, hupo.eq_def, opSto1.eq_def, List.take_succ_cons, List.take_zero, idf_Wd', idf_numS, cells_numS, numS_fold, idf_numI, cells_numI, numI_fold, Pt.av, Pt.cells, spA, spC, numC, hms]; rfl) fun fs5 hfs5 => ?_
      replace hfs5 : fs5.length = 4 := hfs5.trans rfl
      simp only [List.drop_succ_cons, List.drop_zero]
      refine DP.fcall (size_fc bX (by omega)) rfl rfl rfl hb86 (by simp (disch := first|omega|(simp only[ln];omega)) [idf_Wd', hms, idf_numS, cells_numS, numS_fold, idf_numI, cells_numI, numI_fold, Pt.av, Pt.cells, spA, spC, numC]) (by simp (disch := first|omega|(simp only[ln];omega)) [hms]) (by simp) ?_
      simp only [updo]
      refine DP.runFk 2 (by simp (disch := first|omega|(simp only[ln];omega)) [runDf.eq_def, runF1, runF2, stepF.eq_def, updo.eq_def, hupo.eq_def, opSto1.eq_def, List.take_succ_cons, List.take_zero, idf_Wd', idf_numS, cells_numS, numS_fold, idf_numI, cells_numI, numI_fold, Pt.av, Pt.cells, spA, spC, numC, hms]; rfl) fun fs6 hfs6 => ?_
      replace hfs6 : fs6.length = 2 := hfs6.trans rfl
      simp only [List.drop_succ_cons, List.drop_zero]
      refine DP.fcall (size_fc bY (by omega)) rfl rfl rfl hb86 (by simp (disch := first|omega|(simp only[ln];omega)) [idf_Wd', hms, idf_numS, cells_numS, numS_fold, idf_numI, cells_numI, numI_fold, Pt.av, Pt.cells, spA, spC, numC]) (by simp (disch := first|omega|(simp only[ln];omega)) [hms]) (by simp) ?_
      simp only [updo]
      refine DP.runFk 2 (by simp (disch := first|omega|(simp only[ln];omega)) [runDf.eq_def, runF1, runF2, stepF.eq_def, updo.eq_def, hupo.eq_def, opSto1.eq_def, List.take_succ_cons, List.take_zero, idf_Wd', idf_numS, cells_numS, numS_fold, idf_numI, cells_numI, numI_fold, Pt.av, Pt.cells, spA, spC, numC, hms]; rfl) fun fs7 hfs7 => ?_
      replace hfs7 : fs7.length = 2 := hfs7.trans rfl
      simp only [List.drop_succ_cons, List.drop_zero]
      refine DP.fcall (size_fc bW (by omega)) rfl rfl rfl hb86 (by simp (disch := first|omega|(simp only[ln];omega)) [idf_Wd', hms, idf_numS, cells_numS, numS_fold, idf_numI, cells_numI, numI_fold, Pt.av, Pt.cells, spA, spC, numC]) (by simp (disch := first|omega|(simp only[ln];omega)) [hms]) (by simp) ?_
      simp only [updo]
      refine DP.runFk 16 (by simp (disch := first|omega|(simp only[ln];omega)) [runDf.eq_def, runF1, runF2, stepF.eq_def, updo.eq_def, hupo.eq_def, opSto1.eq_def, List.take_succ_cons, List.take_zero, idf_Wd', idf_numS, cells_numS, numS_fold, idf_numI, cells_numI, numI_fold, Pt.av, Pt.cells, spA, spC, numC, hms]; rfl) fun fs8 hfs8 => ?_
      replace hfs8 : fs8.length = 16 := hfs8.trans rfl
      simp only [List.drop_succ_cons, List.drop_zero]
      refine DQ.runF (m := 30) (by simp only [List.length_append, List.length_cons, List.length_nil, hfs4, hfs5, hfs6, hfs7, hfs8]; omega) _ _ _ (by kernel_rfl) rfl (by simp (disch := first|omega|(simp only[ln];omega)) [runDf.eq_def, runF1, runF2, stepF.eq_def, updo.eq_def, hupo.eq_def, opSto1.eq_def, idf_Wd', idf_numS, cells_numS, numS_fold, idf_numI, cells_numI, numI_fold, Pt.av, Pt.cells, spA, spC, numC, hms]; rfl) ?_
      refine hK3 _ ?_
      refine AWP.ret ?_
      exact hK _ _ _ _ trivial ((Fin.mk (by simp [aRes, aResL, aRes1, idf_Wd', idf_numS, cells_numS, numS_fold, idf_numI, cells_numI, numI_fold, Pt.av, Pt.cells, spA, spC, numC]; rfl)).cast (by rw [hg]; simp [hw, hsm]))
    · rw [hsm] at hms
      refine AWP.draw 30 Try.checked.mixed (by kernel_rfl) (by simp) ?_
      simp only [List.take_succ_cons, List.take_zero, List.drop_succ_cons, List.drop_zero]
      refine DP.runFk 2 (by simp (disch := first|omega|(simp only[ln];omega)) [runDf.eq_def, runF1, runF2, stepF.eq_def, updo.eq_def, hupo.eq_def, opSto1.eq_def, List.take_succ_cons, List.take_zero, idf_Wd', idf_numS, cells_numS, numS_fold, idf_numI, cells_numI, numI_fold, Pt.av, Pt.cells, spA, spC, numC, hms]; rfl) fun fs9 hfs9 => ?_
      replace hfs9 : fs9.length = 2 := hfs9.trans rfl
      simp only [List.drop_succ_cons, List.drop_zero]
      refine DP.fcall (hs1 hw) rfl rfl rfl hb85 (by simp (disch := first|omega|(simp only[ln];omega)) [idf_Wd', hms, idf_numS, cells_numS, numS_fold, idf_numI, cells_numI, numI_fold, Pt.av, Pt.cells, spA, spC, numC]) (by simp (disch := first|omega|(simp only[ln];omega)) [hms]) (by simp) ?_
      simp only [updo]
      refine DP.runFk 4 (by simp (disch := first|omega|(simp only[ln];omega)) [runDf.eq_def, runF1, runF2, stepF.eq_def, updo.eq_def, hupo.eq_def, opSto1.eq_def, List.take_succ_cons, List.take_zero, idf_Wd', idf_numS, cells_numS, numS_fold, idf_numI, cells_numI, numI_fold, Pt.av, Pt.cells, spA, spC, numC, hms]; rfl) fun fs10 hfs10 => ?_
      replace hfs10 : fs10.length = 4 := hfs10.trans rfl
      simp only [List.drop_succ_cons, List.drop_zero]
      refine DP.fcall (size_fc bX (by omega)) rfl rfl rfl hb86 (by simp (disch := first|omega|(simp only[ln];omega)) [idf_Wd', hms, idf_numS, cells_numS, numS_fold, idf_numI, cells_numI, numI_fold, Pt.av, Pt.cells, spA, spC, numC]) (by simp (disch := first|omega|(simp only[ln];omega)) [hms]) (by simp) ?_
      simp only [updo]
      refine DP.runFk 2 (by simp (disch := first|omega|(simp only[ln];omega)) [runDf.eq_def, runF1, runF2, stepF.eq_def, updo.eq_def, hupo.eq_def, opSto1.eq_def, List.take_succ_cons, List.take_zero, idf_Wd', idf_numS, cells_numS, numS_fold, idf_numI, cells_numI, numI_fold, Pt.av, Pt.cells, spA, spC, numC, hms]; rfl) fun fs11 hfs11 => ?_
      replace hfs11 : fs11.length = 2 := hfs11.trans rfl
      simp only [List.drop_succ_cons, List.drop_zero]
      refine DP.fcall (size_fc bY (by omega)) rfl rfl rfl hb86 (by simp (disch := first|omega|(simp only[ln];omega)) [idf_Wd', hms, idf_numS, cells_numS, numS_fold, idf_numI, cells_numI, numI_fold, Pt.av, Pt.cells, spA, spC, numC]) (by simp (disch := first|omega|(simp only[ln];omega)) [hms]) (by simp) ?_
      simp only [updo]
      refine DP.runFk 2 (by simp (disch := first|omega|(simp only[ln];omega)) [runDf.eq_def, runF1, runF2, stepF.eq_def, updo.eq_def, hupo.eq_def, opSto1.eq_def, List.take_succ_cons, List.take_zero, idf_Wd', idf_numS, cells_numS, numS_fold, idf_numI, cells_numI, numI_fold, Pt.av, Pt.cells, spA, spC, numC, hms]; rfl) fun fs12 hfs12 => ?_
      replace hfs12 : fs12.length = 2 := hfs12.trans rfl
      simp only [List.drop_succ_cons, List.drop_zero]
      refine DP.fcall (size_fc bW (by omega)) rfl rfl rfl hb86 (by simp (disch := first|omega|(simp only[ln];omega)) [idf_Wd', hms, idf_numS, cells_numS, numS_fold, idf_numI, cells_numI, numI_fold, Pt.av, Pt.cells, spA, spC, numC]) (by simp (disch := first|omega|(simp only[ln];omega)) [hms]) (by simp) ?_
      simp only [updo]
      refine DP.runFk 11 (by simp (disch := first|omega|(simp only[ln];omega)) [runDf.eq_def, runF1, runF2, stepF.eq_def, updo.eq_def, hupo.eq_def, opSto1.eq_def, List.take_succ_cons, List.take_zero, idf_Wd', idf_numS, cells_numS, numS_fold, idf_numI, cells_numI, numI_fold, Pt.av, Pt.cells, spA, spC, numC, hms]; rfl) fun fs13 hfs13 => ?_
      replace hfs13 : fs13.length = 11 := hfs13.trans rfl
      simp only [List.drop_succ_cons, List.drop_zero]
      refine DP.fcall (hg2) rfl rfl rfl hb87 (by simp (disch := first|omega|(simp only[ln];omega)) [idf_Wd', hms, idf_numS, cells_numS, numS_fold, idf_numI, cells_numI, numI_fold, Pt.av, Pt.cells, spA, spC, numC]) (by simp (disch := first|omega|(simp only[ln];omega)) [hms]) (by simp) ?_
      simp only [updo]
      refine DP.fcall (whole_fc 1 (by omega) (by omega)) rfl rfl rfl hb89 (by simp (disch := first|omega|(simp only[ln];omega)) [idf_Wd', hms, idf_numS, cells_numS, numS_fold, idf_numI, cells_numI, numI_fold, Pt.av, Pt.cells, spA, spC, numC]) (by simp (disch := first|omega|(simp only[ln];omega)) [hms]) (by simp) ?_
      simp only [updo]
      refine DP.fcall (hcf) rfl rfl rfl hb88 (by simp (disch := first|omega|(simp only[ln];omega)) [idf_Wd', hms, idf_numS, cells_numS, numS_fold, idf_numI, cells_numI, numI_fold, Pt.av, Pt.cells, spA, spC, numC]) (by simp (disch := first|omega|(simp only[ln];omega)) [hms]) (by simp) ?_
      simp only [updo]
      refine DP.runFk 2 (by simp (disch := first|omega|(simp only[ln];omega)) [runDf.eq_def, runF1, runF2, stepF.eq_def, updo.eq_def, hupo.eq_def, opSto1.eq_def, List.take_succ_cons, List.take_zero, idf_Wd', idf_numS, cells_numS, numS_fold, idf_numI, cells_numI, numI_fold, Pt.av, Pt.cells, spA, spC, numC, hms]; rfl) fun fs14 hfs14 => ?_
      replace hfs14 : fs14.length = 2 := hfs14.trans rfl
      simp only [List.drop_succ_cons, List.drop_zero]
      refine DQ.runF (m := 30) (by simp only [List.length_append, List.length_cons, List.length_nil, hfs9, hfs10, hfs11, hfs12, hfs13, hfs14]; omega) _ _ _ (by kernel_rfl) rfl (by simp (disch := first|omega|(simp only[ln];omega)) [runDf.eq_def, runF1, runF2, stepF.eq_def, updo.eq_def, hupo.eq_def, opSto1.eq_def, idf_Wd', idf_numS, cells_numS, numS_fold, idf_numI, cells_numI, numI_fold, Pt.av, Pt.cells, spA, spC, numC, hms]; rfl) ?_
      refine hK3 _ ?_
      refine AWP.ret ?_
      exact hK _ _ _ _ trivial ((Fin.mk (by simp [aRes, aResL, aRes1, idf_Wd', idf_numS, cells_numS, numS_fold, idf_numI, cells_numI, numI_fold, Pt.av, Pt.cells, spA, spC, numC]; rfl)).cast (by rw [hg]; simp [hw, hsm, hce]))
  · obtain ⟨c0, hc0, hc1⟩ := hs0 hw
    have c1 : decide (0 < c0) = false := by simp; omega
    refine AWP.draw 30 Try.checked.mixed (by kernel_rfl) (by simp) ?_
    simp only [List.take_succ_cons, List.take_zero, List.drop_succ_cons, List.drop_zero]
    refine DP.runFk 2 (by simp (disch := first|omega|(simp only[ln];omega)) [runDf.eq_def, runF1, runF2, stepF.eq_def, updo.eq_def, hupo.eq_def, opSto1.eq_def, List.take_succ_cons, List.take_zero, idf_Wd', idf_numS, cells_numS, numS_fold, idf_numI, cells_numI, numI_fold, Pt.av, Pt.cells, spA, spC, numC, c1]; rfl) fun fs15 hfs15 => ?_
    replace hfs15 : fs15.length = 2 := hfs15.trans rfl
    simp only [List.drop_succ_cons, List.drop_zero]
    refine DP.fcall (hc0) rfl rfl rfl hb85 (by simp (disch := first|omega|(simp only[ln];omega)) [idf_Wd', c1, idf_numS, cells_numS, numS_fold, idf_numI, cells_numI, numI_fold, Pt.av, Pt.cells, spA, spC, numC]) (by simp (disch := first|omega|(simp only[ln];omega)) [c1]) (by simp) ?_
    simp only [updo]
    refine DP.runFk 27 (by simp (disch := first|omega|(simp only[ln];omega)) [runDf.eq_def, runF1, runF2, stepF.eq_def, updo.eq_def, hupo.eq_def, opSto1.eq_def, List.take_succ_cons, List.take_zero, idf_Wd', idf_numS, cells_numS, numS_fold, idf_numI, cells_numI, numI_fold, Pt.av, Pt.cells, spA, spC, numC, c1]; rfl) fun fs16 hfs16 => ?_
    replace hfs16 : fs16.length = 27 := hfs16.trans rfl
    simp only [List.drop_succ_cons, List.drop_zero]
    refine DQ.runF (m := 30) (by simp only [List.length_append, List.length_cons, List.length_nil, hfs15, hfs16]; omega) _ _ _ (by kernel_rfl) rfl (by simp (disch := first|omega|(simp only[ln];omega)) [runDf.eq_def, runF1, runF2, stepF.eq_def, updo.eq_def, hupo.eq_def, opSto1.eq_def, idf_Wd', idf_numS, cells_numS, numS_fold, idf_numI, cells_numI, numI_fold, Pt.av, Pt.cells, spA, spC, numC, c1]; rfl) ?_
    refine hK3 _ ?_
    refine AWP.ret ?_
    exact hK _ _ _ _ trivial ((Fin.mk (by simp [aRes, aResL, aRes1, idf_Wd', idf_numS, cells_numS, numS_fold, idf_numI, cells_numI, numI_fold, Pt.av, Pt.cells, spA, spC, numC]; rfl)).cast (by rw [hg]; simp [hw]))

end Go.Proofs.Ytmaebeknmiomnaa

/- Walks: turns of three points. -/
namespace Go.Proofs.Ytmaebeknmiomnaa
open Go Go.RowKit
set_option linter.unusedSimpArgs false
set_option linter.unusedVariables false
set_option maxRecDepth 100000
attribute [local simp] List.getElem?_cons_zero List.getElem?_cons_succ List.getElem?_toArray runOps stepOp.eq_def agd.eq_def dstOk.eq_def opVal.eq_def opNew.eq_def opSto.eq_def ev.eq_def cv.eq_def puts_some puts_none upd_ap lst.eq_def aBin.eq_def aUn.eq_def aBi_str aBi_isl aBi_osl aBi_nsl aBi_max aBi_min aBi_max3 aConv.eq_def aLd.eq_def aLoad.eq_def aField.eq_def aFld.eq_def aIdx_isl aIdx_osl aSlc_isl aSlc_osl aSlc_str aSlc_nsl bnd.eq_def evs_nil evs_cons aBuild.eq_def aFill splice.eq_def cells_agg cells_int cells_bool cells_str cells_nil cells_nsl cells_isl cells_osl cells_ptr cells_ip cells_fn cells_Wd one_int one_bool one_str one_nil one_nsl one_isl one_osl one_ptr one_ip one_fn one_Wd aSets hupd_eq hupd_ne wrap_i64s wrap_u64s wrap_u32s wrap_u8s wd_getD wd_set wd_len wd_replicate wd_one wd_fold fz_osl hupd_same aSix.eq_def aEqS.eq_def aEqB_bool aEqB_nsl aEqB_nil
attribute [local simp] szT4 byT4 agT4 unT4 zoT4 szT26 byT26 agT26 flT26 fdT26_0 fdT26_1 fdT26_2 fdT26_3 zoT26 szT28 byT28 agT28 flT28 fdT28_0 fdT28_1 fdT28_2 zoT28 szT80 byT80 agT80 elT80 unT80 zoT80 szT111 byT111 agT111 elT111 unT111 zoT111 szT113 byT113 agT113 flT113 fdT113_0 fdT113_1 zoT113 szT115 byT115 agT115 flT115 fdT115_0 fdT115_1 fdT115_2 zoT115 szT117 byT117 agT117 elT117 unT117 zoT117 szT119 byT119 agT119 flT119 fdT119_0 fdT119_1 zoT119 szT121 byT121 agT121 flT121 fdT121_0 fdT121_1 fdT121_2 zoT121

set_option maxHeartbeats 2000000 in
theorem l3Orient_fc (p q r : Pt) (hp : p.ok) (hq : q.ok) (hr : r.ok) : FC Try.prog 126 [l3A p.x.v p.y.v p.w.v, l3A q.x.v q.y.v q.w.v, l3A r.x.v r.y.v r.w.v] (.int .i64 (sg3 (det p q r))) := by
  have pX := W4.bg hp.1
  have pY := W4.bg hp.2.1
  have pW := W4.bg hp.2.2
  have qX := W4.bg hq.1
  have qY := W4.bg hq.2.1
  have qW := W4.bg hq.2.2
  have rX := W4.bg hr.1
  have rY := W4.bg hr.2.1
  have rW := W4.bg hr.2.2
  refine FC.body Try.func126 rfl (by simp [idfL, idf, l3A, l3C, idf_Wd']) (by simp [idfL, idf, idfLL_iff, idf_Wd', idf_numS, cells_numS, numS_fold, idf_numI, cells_numI, numI_fold, l3A, l3C]) 58 rfl fun nx K hK => ?_
  refine AWP.seqk fun K1 hK1 => ?_
  refine AWP.region (AOPS.all (by simp (disch := first|omega|(simp only[ln];omega)) [idf_Wd', idf_numS, cells_numS, numS_fold, idf_numI, cells_numI, numI_fold, l3A, l3C]; rfl) ?_)
  refine hK1 _ ?_
  refine AWP.seqk fun K2 hK2 => ?_
  refine AWP.draw 15 Try.checked.mixed (by kernel_rfl) (by simp) ?_
  simp only [List.take_succ_cons, List.take_zero, List.drop_succ_cons, List.drop_zero]
  refine DP.runFk 6 (by simp (disch := first|omega|(simp only[ln];omega)) [runDf.eq_def, runF1, runF2, stepF.eq_def, updo.eq_def, hupo.eq_def, opSto1.eq_def, List.take_succ_cons, List.take_zero, idf_Wd', idf_numS, cells_numS, numS_fold, idf_numI, cells_numI, numI_fold, l3A, l3C]; rfl) fun fs3 hfs3 => ?_
  replace hfs3 : fs3.length = 6 := hfs3.trans rfl
  simp only [List.drop_succ_cons, List.drop_zero]
  refine DP.fcall (l1Mul_fc qY rW (by omega) (by omega)) rfl rfl rfl hb105 (by simp (disch := first|omega|(simp only[ln];omega)) [idf_Wd', idf_numS, cells_numS, numS_fold, idf_numI, cells_numI, numI_fold, l3A, l3C]) (by simp (disch := first|omega|(simp only[ln];omega))) (by simp) ?_
  simp only [updo]
  refine DP.runFk 4 (by simp (disch := first|omega|(simp only[ln];omega)) [runDf.eq_def, runF1, runF2, stepF.eq_def, updo.eq_def, hupo.eq_def, opSto1.eq_def, List.take_succ_cons, List.take_zero, idf_Wd', idf_numS, cells_numS, numS_fold, idf_numI, cells_numI, numI_fold, l3A, l3C]; rfl) fun fs4 hfs4 => ?_
  replace hfs4 : fs4.length = 4 := hfs4.trans rfl
  simp only [List.drop_succ_cons, List.drop_zero]
  refine DP.fcall (l1Mul_fc qW rY (by omega) (by omega)) rfl rfl rfl hb105 (by simp (disch := first|omega|(simp only[ln];omega)) [idf_Wd', idf_numS, cells_numS, numS_fold, idf_numI, cells_numI, numI_fold, l3A, l3C]) (by simp (disch := first|omega|(simp only[ln];omega))) (by simp) ?_
  simp only [updo]
  refine DP.fcall (l1Sub_fc (qY.mul rW) (qW.mul rY) (by omega) (by omega)) rfl rfl rfl hb202 (by simp (disch := first|omega|(simp only[ln];omega)) [idf_Wd', idf_numS, cells_numS, numS_fold, idf_numI, cells_numI, numI_fold, l3A, l3C]) (by simp (disch := first|omega|(simp only[ln];omega))) (by simp) ?_
  simp only [updo]
  refine DP.fcall (l1Mul_fc pX ((qY.mul rW).sub (qW.mul rY)) (by omega) (by omega)) rfl rfl rfl hb105 (by simp (disch := first|omega|(simp only[ln];omega)) [idf_Wd', idf_numS, cells_numS, numS_fold, idf_numI, cells_numI, numI_fold, l3A, l3C]) (by simp (disch := first|omega|(simp only[ln];omega))) (by simp) ?_
  simp only [updo]
  refine DP.runFk 1 (by simp (disch := first|omega|(simp only[ln];omega)) [runDf.eq_def, runF1, runF2, stepF.eq_def, updo.eq_def, hupo.eq_def, opSto1.eq_def, List.take_succ_cons, List.take_zero, idf_Wd', idf_numS, cells_numS, numS_fold, idf_numI, cells_numI, numI_fold, l3A, l3C]; rfl) fun fs5 hfs5 => ?_
  replace hfs5 : fs5.length = 1 := hfs5.trans rfl
  simp only [List.drop_succ_cons, List.drop_zero]
  refine DQ.runF (m := 15) (by simp only [List.length_append, List.length_cons, List.length_nil, hfs3, hfs4, hfs5]; omega) _ _ _ (by kernel_rfl) rfl (by simp (disch := first|omega|(simp only[ln];omega)) [runDf.eq_def, runF1, runF2, stepF.eq_def, updo.eq_def, hupo.eq_def, opSto1.eq_def, idf_Wd', idf_numS, cells_numS, numS_fold, idf_numI, cells_numI, numI_fold, l3A, l3C]; rfl) ?_
  refine hK2 _ ?_
  refine AWP.seqk fun K6 hK6 => ?_
  refine AWP.draw 15 Try.checked.mixed (by kernel_rfl) (by simp) ?_
  simp only [List.take_succ_cons, List.take_zero, List.drop_succ_cons, List.drop_zero]
  refine DP.runFk 6 (by simp (disch := first|omega|(simp only[ln];omega)) [runDf.eq_def, runF1, runF2, stepF.eq_def, updo.eq_def, hupo.eq_def, opSto1.eq_def, List.take_succ_cons, List.take_zero, idf_Wd', idf_numS, cells_numS, numS_fold, idf_numI, cells_numI, numI_fold, l3A, l3C]; rfl) fun fs7 hfs7 => ?_
  replace hfs7 : fs7.length = 6 := hfs7.trans rfl
  simp only [List.drop_succ_cons, List.drop_zero]
  refine DP.fcall (l1Mul_fc qX rW (by omega) (by omega)) rfl rfl rfl hb105 (by simp (disch := first|omega|(simp only[ln];omega)) [idf_Wd', idf_numS, cells_numS, numS_fold, idf_numI, cells_numI, numI_fold, l3A, l3C]) (by simp (disch := first|omega|(simp only[ln];omega))) (by simp) ?_
  simp only [updo]
  refine DP.runFk 4 (by simp (disch := first|omega|(simp only[ln];omega)) [runDf.eq_def, runF1, runF2, stepF.eq_def, updo.eq_def, hupo.eq_def, opSto1.eq_def, List.take_succ_cons, List.take_zero, idf_Wd', idf_numS, cells_numS, numS_fold, idf_numI, cells_numI, numI_fold, l3A, l3C]; rfl) fun fs8 hfs8 => ?_
  replace hfs8 : fs8.length = 4 := hfs8.trans rfl
  simp only [List.drop_succ_cons, List.drop_zero]
  refine DP.fcall (l1Mul_fc qW rX (by omega) (by omega)) rfl rfl rfl hb105 (by simp (disch := first|omega|(simp only[ln];omega)) [idf_Wd', idf_numS, cells_numS, numS_fold, idf_numI, cells_numI, numI_fold, l3A, l3C]) (by simp (disch := first|omega|(simp only[ln];omega))) (by simp) ?_
  simp only [updo]
  refine DP.fcall (l1Sub_fc (qX.mul rW) (qW.mul rX) (by omega) (by omega)) rfl rfl rfl hb202 (by simp (disch := first|omega|(simp only[ln];omega)) [idf_Wd', idf_numS, cells_numS, numS_fold, idf_numI, cells_numI, numI_fold, l3A, l3C]) (by simp (disch := first|omega|(simp only[ln];omega))) (by simp) ?_
  simp only [updo]
  refine DP.fcall (l1Mul_fc pY ((qX.mul rW).sub (qW.mul rX)) (by omega) (by omega)) rfl rfl rfl hb105 (by simp (disch := first|omega|(simp only[ln];omega)) [idf_Wd', idf_numS, cells_numS, numS_fold, idf_numI, cells_numI, numI_fold, l3A, l3C]) (by simp (disch := first|omega|(simp only[ln];omega))) (by simp) ?_
  simp only [updo]
  refine DP.runFk 1 (by simp (disch := first|omega|(simp only[ln];omega)) [runDf.eq_def, runF1, runF2, stepF.eq_def, updo.eq_def, hupo.eq_def, opSto1.eq_def, List.take_succ_cons, List.take_zero, idf_Wd', idf_numS, cells_numS, numS_fold, idf_numI, cells_numI, numI_fold, l3A, l3C]; rfl) fun fs9 hfs9 => ?_
  replace hfs9 : fs9.length = 1 := hfs9.trans rfl
  simp only [List.drop_succ_cons, List.drop_zero]
  refine DQ.runF (m := 15) (by simp only [List.length_append, List.length_cons, List.length_nil, hfs7, hfs8, hfs9]; omega) _ _ _ (by kernel_rfl) rfl (by simp (disch := first|omega|(simp only[ln];omega)) [runDf.eq_def, runF1, runF2, stepF.eq_def, updo.eq_def, hupo.eq_def, opSto1.eq_def, idf_Wd', idf_numS, cells_numS, numS_fold, idf_numI, cells_numI, numI_fold, l3A, l3C]; rfl) ?_
  refine hK6 _ ?_
  refine AWP.seqk fun K10 hK10 => ?_
  refine AWP.draw 15 Try.checked.mixed (by kernel_rfl) (by simp) ?_
  simp only [List.take_succ_cons, List.take_zero, List.drop_succ_cons, List.drop_zero]
  refine DP.runFk 6 (by simp (disch := first|omega|(simp only[ln];omega)) [runDf.eq_def, runF1, runF2, stepF.eq_def, updo.eq_def, hupo.eq_def, opSto1.eq_def, List.take_succ_cons, List.take_zero, idf_Wd', idf_numS, cells_numS, numS_fold, idf_numI, cells_numI, numI_fold, l3A, l3C]; rfl) fun fs11 hfs11 => ?_
  replace hfs11 : fs11.length = 6 := hfs11.trans rfl
  simp only [List.drop_succ_cons, List.drop_zero]
  refine DP.fcall (l1Mul_fc qX rY (by omega) (by omega)) rfl rfl rfl hb105 (by simp (disch := first|omega|(simp only[ln];omega)) [idf_Wd', idf_numS, cells_numS, numS_fold, idf_numI, cells_numI, numI_fold, l3A, l3C]) (by simp (disch := first|omega|(simp only[ln];omega))) (by simp) ?_
  simp only [updo]
  refine DP.runFk 4 (by simp (disch := first|omega|(simp only[ln];omega)) [runDf.eq_def, runF1, runF2, stepF.eq_def, updo.eq_def, hupo.eq_def, opSto1.eq_def, List.take_succ_cons, List.take_zero, idf_Wd', idf_numS, cells_numS, numS_fold, idf_numI, cells_numI, numI_fold, l3A, l3C]; rfl) fun fs12 hfs12 => ?_
  replace hfs12 : fs12.length = 4 := hfs12.trans rfl
  simp only [List.drop_succ_cons, List.drop_zero]
  refine DP.fcall (l1Mul_fc qY rX (by omega) (by omega)) rfl rfl rfl hb105 (by simp (disch := first|omega|(simp only[ln];omega)) [idf_Wd', idf_numS, cells_numS, numS_fold, idf_numI, cells_numI, numI_fold, l3A, l3C]) (by simp (disch := first|omega|(simp only[ln];omega))) (by simp) ?_
  simp only [updo]
  refine DP.fcall (l1Sub_fc (qX.mul rY) (qY.mul rX) (by omega) (by omega)) rfl rfl rfl hb202 (by simp (disch := first|omega|(simp only[ln];omega)) [idf_Wd', idf_numS, cells_numS, numS_fold, idf_numI, cells_numI, numI_fold, l3A, l3C]) (by simp (disch := first|omega|(simp only[ln];omega))) (by simp) ?_
  simp only [updo]
  refine DP.fcall (l1Mul_fc pW ((qX.mul rY).sub (qY.mul rX)) (by omega) (by omega)) rfl rfl rfl hb105 (by simp (disch := first|omega|(simp only[ln];omega)) [idf_Wd', idf_numS, cells_numS, numS_fold, idf_numI, cells_numI, numI_fold, l3A, l3C]) (by simp (disch := first|omega|(simp only[ln];omega))) (by simp) ?_
  simp only [updo]
  refine DP.runFk 1 (by simp (disch := first|omega|(simp only[ln];omega)) [runDf.eq_def, runF1, runF2, stepF.eq_def, updo.eq_def, hupo.eq_def, opSto1.eq_def, List.take_succ_cons, List.take_zero, idf_Wd', idf_numS, cells_numS, numS_fold, idf_numI, cells_numI, numI_fold, l3A, l3C]; rfl) fun fs13 hfs13 => ?_
  replace hfs13 : fs13.length = 1 := hfs13.trans rfl
  simp only [List.drop_succ_cons, List.drop_zero]
  refine DQ.runF (m := 15) (by simp only [List.length_append, List.length_cons, List.length_nil, hfs11, hfs12, hfs13]; omega) _ _ _ (by kernel_rfl) rfl (by simp (disch := first|omega|(simp only[ln];omega)) [runDf.eq_def, runF1, runF2, stepF.eq_def, updo.eq_def, hupo.eq_def, opSto1.eq_def, idf_Wd', idf_numS, cells_numS, numS_fold, idf_numI, cells_numI, numI_fold, l3A, l3C]; rfl) ?_
  refine hK10 _ ?_
  refine AWP.seqk fun K14 hK14 => ?_
  refine AWP.draw 6 Try.checked.mixed (by kernel_rfl) (by simp) ?_
  simp only [List.take_succ_cons, List.take_zero, List.drop_succ_cons, List.drop_zero]
  refine DP.runFk 2 (by simp (disch := first|omega|(simp only[ln];omega)) [runDf.eq_def, runF1, runF2, stepF.eq_def, updo.eq_def, hupo.eq_def, opSto1.eq_def, List.take_succ_cons, List.take_zero, idf_Wd', idf_numS, cells_numS, numS_fold, idf_numI, cells_numI, numI_fold, l3A, l3C]; rfl) fun fs15 hfs15 => ?_
  replace hfs15 : fs15.length = 2 := hfs15.trans rfl
  simp only [List.drop_succ_cons, List.drop_zero]
  refine DP.fcall (l1Sub_fc (pX.mul ((qY.mul rW).sub (qW.mul rY))) (pY.mul ((qX.mul rW).sub (qW.mul rX))) (by omega) (by omega)) rfl rfl rfl hb202 (by simp (disch := first|omega|(simp only[ln];omega)) [idf_Wd', idf_numS, cells_numS, numS_fold, idf_numI, cells_numI, numI_fold, l3A, l3C]) (by simp (disch := first|omega|(simp only[ln];omega))) (by simp) ?_
  simp only [updo]
  refine DP.runFk 1 (by simp (disch := first|omega|(simp only[ln];omega)) [runDf.eq_def, runF1, runF2, stepF.eq_def, updo.eq_def, hupo.eq_def, opSto1.eq_def, List.take_succ_cons, List.take_zero, idf_Wd', idf_numS, cells_numS, numS_fold, idf_numI, cells_numI, numI_fold, l3A, l3C]; rfl) fun fs16 hfs16 => ?_
  replace hfs16 : fs16.length = 1 := hfs16.trans rfl
  simp only [List.drop_succ_cons, List.drop_zero]
  refine DP.fcall (l1Add_fc ((pX.mul ((qY.mul rW).sub (qW.mul rY))).sub (pY.mul ((qX.mul rW).sub (qW.mul rX)))) (pW.mul ((qX.mul rY).sub (qY.mul rX))) (by omega) (by omega)) rfl rfl rfl hb104 (by simp (disch := first|omega|(simp only[ln];omega)) [idf_Wd', idf_numS, cells_numS, numS_fold, idf_numI, cells_numI, numI_fold, l3A, l3C]) (by simp (disch := first|omega|(simp only[ln];omega))) (by simp) ?_
  simp only [updo]
  refine DP.fcall (l1Sign_fc (p.x.v * (q.y.v * r.w.v - q.w.v * r.y.v) - p.y.v * (q.x.v * r.w.v - q.w.v * r.x.v) + p.w.v * (q.x.v * r.y.v - q.y.v * r.x.v))) rfl rfl rfl hb166 (by simp (disch := first|omega|(simp only[ln];omega)) [idf_Wd', idf_numS, cells_numS, numS_fold, idf_numI, cells_numI, numI_fold, l3A, l3C]) (by simp (disch := first|omega|(simp only[ln];omega))) (by simp) ?_
  simp only [updo]
  refine DQ.runF (m := 6) (by simp only [List.length_append, List.length_cons, List.length_nil, hfs15, hfs16]; omega) _ _ _ (by kernel_rfl) rfl (by simp (disch := first|omega|(simp only[ln];omega)) [runDf.eq_def, runF1, runF2, stepF.eq_def, updo.eq_def, hupo.eq_def, opSto1.eq_def, idf_Wd', idf_numS, cells_numS, numS_fold, idf_numI, cells_numI, numI_fold, l3A, l3C]; rfl) ?_
  refine hK14 _ ?_
  refine AWP.ret ?_
  exact hK _ _ _ _ trivial ((Fin.mk (by simp [aRes, aResL, aRes1, idf_Wd', idf_numS, cells_numS, numS_fold, idf_numI, cells_numI, numI_fold, l3A, l3C]; rfl)).cast (by rw [det_spec]; rfl))

end Go.Proofs.Ytmaebeknmiomnaa

/- Walks: points made by the reference. -/
namespace Go.Proofs.Ytmaebeknmiomnaa
open Go Go.RowKit
set_option linter.unusedSimpArgs false
set_option linter.unusedVariables false
set_option maxRecDepth 100000
attribute [local simp] List.getElem?_cons_zero List.getElem?_cons_succ List.getElem?_toArray runOps stepOp.eq_def agd.eq_def dstOk.eq_def opVal.eq_def opNew.eq_def opSto.eq_def ev.eq_def cv.eq_def puts_some puts_none upd_ap lst.eq_def aBin.eq_def aUn.eq_def aBi_str aBi_isl aBi_osl aBi_nsl aBi_max aBi_min aBi_max3 aConv.eq_def aLd.eq_def aLoad.eq_def aField.eq_def aFld.eq_def aIdx_isl aIdx_osl aSlc_isl aSlc_osl aSlc_str aSlc_nsl bnd.eq_def evs_nil evs_cons aBuild.eq_def aFill splice.eq_def cells_agg cells_int cells_bool cells_str cells_nil cells_nsl cells_isl cells_osl cells_ptr cells_ip cells_fn cells_Wd one_int one_bool one_str one_nil one_nsl one_isl one_osl one_ptr one_ip one_fn one_Wd aSets hupd_eq hupd_ne wrap_i64s wrap_u64s wrap_u32s wrap_u8s wd_getD wd_set wd_len wd_replicate wd_one wd_fold fz_osl hupd_same aSix.eq_def aEqS.eq_def aEqB_bool aEqB_nsl aEqB_nil
attribute [local simp] szT2 byT2 agT2 unT2 zoT2 szT4 byT4 agT4 unT4 zoT4 szT24 byT24 agT24 unT24 zoT24 szT26 byT26 agT26 flT26 fdT26_0 fdT26_1 fdT26_2 fdT26_3 zoT26 szT28 byT28 agT28 flT28 fdT28_0 fdT28_1 fdT28_2 zoT28 szT67 byT67 agT67 flT67 fdT67_0 fdT67_1 zoT67 szT111 byT111 agT111 elT111 unT111 zoT111 szT113 byT113 agT113 flT113 fdT113_0 fdT113_1 zoT113 szT115 byT115 agT115 flT115 fdT115_0 fdT115_1 fdT115_2 zoT115 szT225 byT225 agT225 unT225 zoT225

set_option maxHeartbeats 2000000 in
theorem l1Div_fc {j : Nat} (a b : Int) (hb0 : b ≠ 0) (ha : Bg j a) (hb : Bg j b) (hj : j ≤ 16777216) : FC Try.prog 194 [numS a, numS b] (.tup [numS (a / b), numS (a % b)]) := by
  have hD := l1DivAbs_fc a.natAbs b.natAbs (by omega) ha.abs hb.abs hj
  rw [dg_abs, dg_abs] at hD
  have eu := eu_lem a b hb0
  generalize hq : ((a.natAbs / b.natAbs : Nat) : Int) = q0 at *
  generalize hr : ((a.natAbs % b.natAbs : Nat) : Int) = r0 at *
  have q0n : 0 ≤ q0 := by rw [← hq]; exact Int.natCast_nonneg _
  have r0n : 0 ≤ r0 := by rw [← hr]; exact Int.natCast_nonneg _
  have bq : Bg j q0 := by
    rw [← hq]; unfold Bg at *; rw [Int.natAbs_natCast]; have := Nat.div_le_self a.natAbs b.natAbs; omega
  have br : Bg j r0 := by
    rw [← hr]; unfold Bg at *; rw [Int.natAbs_natCast]; have := Nat.mod_le a.natAbs b.natAbs; omega
  have bqs : ∀ s, Bg j (sg s q0) := fun s => by cases s <;> simp only [sg_true, sg_false]; exact bq; exact bq.neg
  have brs : ∀ s, Bg j (sg s r0) := fun s => by cases s <;> simp only [sg_true, sg_false]; exact br; exact br.neg
  have lq := bq.len32
  have lr := br.len32
  have hT1 := l1Trim_fc (decide (a < 0) != decide (b < 0)) (dg q0) (by omega) (dg_dig _)
  rw [dg_val, Int.natAbs_of_nonneg q0n] at hT1
  have hT2 := l1Trim_fc (decide (a < 0)) (dg r0) (by omega) (dg_dig _)
  rw [dg_val, Int.natAbs_of_nonneg r0n] at hT2
  obtain ⟨S, hS⟩ : ∃ S, (decide (a < 0) != decide (b < 0)) = S := ⟨_, rfl⟩
  have hS2 : (decide (a < 0) == decide (b < 0)) = !S := by rw [← hS]; cases decide (a < 0) <;> cases decide (b < 0) <;> rfl
  rw [hS] at eu hT1
  refine FC.body Try.func194 rfl (by simp [idfL, idf, idfLL_iff, idf_Wd', idf_numS, cells_numS, numS_fold]) (by simp [idfL, idf, idfLL_iff, idf_Wd', idf_numS, cells_numS, numS_fold]) 47 rfl fun nx K hK => ?_
  refine AWP.seqk fun K1 hK1 => ?_
  refine AWP.region (AOPS.all (by simp (disch := first|omega|(simp only[ln];omega)) [idf_Wd', idf_numS, cells_numS, numS_fold]; rfl) ?_)
  refine hK1 _ ?_
  refine AWP.seqk fun K2 hK2 => ?_
  refine AWP.region ?_
  refine AOPS.runk 4 (by simp (disch := first|omega|(simp only[ln];omega)) [List.take_succ_cons, List.take_zero, idf_Wd', idf_numS, cells_numS, numS_fold]; rfl) ?_
  simp only [List.drop_succ_cons, List.drop_zero]
  refine AOPS.fcall (hD) rfl rfl rfl hb212 (by simp (disch := first|omega|(simp only[ln];omega)) [idf_Wd', idf_numS, cells_numS, numS_fold]) (by simp (disch := first|omega|(simp only[ln];omega))) (by simp) ?_
  simp only [puts_some, updo]
  refine AOPS.all (by simp (disch := first|omega|(simp only[ln];omega)) [idf_Wd', idf_numS, cells_numS, numS_fold]; rfl) ?_
  refine hK2 _ ?_
  refine AWP.seqk fun K3 hK3 => ?_
  refine AWP.region ?_
  refine AOPS.runk 6 (by simp (disch := first|omega|(simp only[ln];omega)) [List.take_succ_cons, List.take_zero, idf_Wd', idf_numS, cells_numS, numS_fold, hS2]; rfl) ?_
  simp only [List.drop_succ_cons, List.drop_zero]
  refine AOPS.fcall (hT1) rfl rfl rfl hb195 (by simp (disch := first|omega|(simp only[ln];omega)) [idf_Wd', hS2, idf_numS, cells_numS, numS_fold]) (by simp (disch := first|omega|(simp only[ln];omega)) [hS2]) (by simp) ?_
  simp only [puts_some, updo]
  refine AOPS.all (by simp (disch := first|omega|(simp only[ln];omega)) [idf_Wd', idf_numS, cells_numS, numS_fold, hS2]; rfl) ?_
  refine hK3 _ ?_
  refine AWP.seqk fun K4 hK4 => ?_
  refine AWP.region ?_
  refine AOPS.runk 3 (by simp (disch := first|omega|(simp only[ln];omega)) [List.take_succ_cons, List.take_zero, idf_Wd', idf_numS, cells_numS, numS_fold]; rfl) ?_
  simp only [List.drop_succ_cons, List.drop_zero]
  refine AOPS.fcall (hT2) rfl rfl rfl hb195 (by simp (disch := first|omega|(simp only[ln];omega)) [idf_Wd', idf_numS, cells_numS, numS_fold]) (by simp (disch := first|omega|(simp only[ln];omega))) (by simp) ?_
  simp only [puts_some, updo]
  refine AOPS.all (by simp (disch := first|omega|(simp only[ln];omega)) [idf_Wd', idf_numS, cells_numS, numS_fold]; rfl) ?_
  refine hK4 _ ?_
  refine AWP.seqk fun K5 hK5 => ?_
  refine AWP.seqk fun K6 hK6 => ?_
  refine AWP.region (AOPS.all (by simp (disch := first|omega|(simp only[ln];omega)) [idf_Wd', idf_numS, cells_numS, numS_fold]; rfl) ?_)
  refine hK6 _ ?_
  refine cond_ok (decide (sg (decide (a < 0)) r0 < 0)) (by simp (disch := first|omega|(simp only[ln];omega))) (fun h30 => ?_) (fun h30 => ?_)
  · try simp only [decide_eq_true_eq, decide_eq_false_iff_not] at h30
    refine AWP.seqk fun K7 hK7 => ?_
    refine AWP.region (AOPS.all (by simp (disch := first|omega|(simp only[ln];omega)) [idf_Wd', idf_numS, cells_numS, numS_fold]; rfl) ?_)
    refine hK7 _ ?_
    refine cond_ok (decide (b < 0)) (by simp (disch := first|omega|(simp only[ln];omega))) (fun h32 => ?_) (fun h32 => ?_)
    · try simp only [decide_eq_true_eq, decide_eq_false_iff_not] at h32
      have e := eu.2.1 h30 h32
      refine AWP.seqk fun K8 hK8 => ?_
      refine AWP.draw 3 Try.checked.mixed (by kernel_rfl) (by simp) ?_
      simp only [List.take_succ_cons, List.take_zero, List.drop_succ_cons, List.drop_zero]
      refine DP.runFk 1 (by simp (disch := first|omega|(simp only[ln];omega)) [runDf.eq_def, runF1, runF2, stepF.eq_def, updo.eq_def, hupo.eq_def, opSto1.eq_def, List.take_succ_cons, List.take_zero, idf_Wd', idf_numS, cells_numS, numS_fold]; rfl) fun fs9 hfs9 => ?_
      replace hfs9 : fs9.length = 1 := hfs9.trans rfl
      simp only [List.drop_succ_cons, List.drop_zero]
      refine DP.fcall (l1Int_fc 1 (by omega) (by omega)) rfl rfl rfl hb106 (by simp (disch := first|omega|(simp only[ln];omega)) [idf_Wd', idf_numS, cells_numS, numS_fold]) (by simp (disch := first|omega|(simp only[ln];omega))) (by simp) ?_
      simp only [updo]
      refine DP.fcall (l1Add_fc (bqs S) (Bg.i64 (n := 1) (by omega) (by omega)) (by omega) (by omega)) rfl rfl rfl hb104 (by simp (disch := first|omega|(simp only[ln];omega)) [idf_Wd', idf_numS, cells_numS, numS_fold]) (by simp (disch := first|omega|(simp only[ln];omega))) (by simp) ?_
      simp only [updo]
      refine DQ.runF (m := 3) (by simp only [List.length_append, List.length_cons, List.length_nil, hfs9]; omega) _ _ _ (by kernel_rfl) rfl (by simp (disch := first|omega|(simp only[ln];omega)) [runDf.eq_def, runF1, runF2, stepF.eq_def, updo.eq_def, hupo.eq_def, opSto1.eq_def, idf_Wd', idf_numS, cells_numS, numS_fold]; rfl) ?_
      refine hK8 _ ?_
      refine AWP.region ?_
      refine AOPS.runk 2 (by simp (disch := first|omega|(simp only[ln];omega)) [List.take_succ_cons, List.take_zero, idf_Wd', idf_numS, cells_numS, numS_fold]; rfl) ?_
      simp only [List.drop_succ_cons, List.drop_zero]
      refine AOPS.fcall (l1Sub_fc (brs (decide (a < 0))) hb (by omega) (by omega)) rfl rfl rfl hb202 (by simp (disch := first|omega|(simp only[ln];omega)) [idf_Wd', idf_numS, cells_numS, numS_fold]) (by simp (disch := first|omega|(simp only[ln];omega))) (by simp) ?_
      simp only [puts_some, updo]
      refine AOPS.all (by simp (disch := first|omega|(simp only[ln];omega)) [idf_Wd', idf_numS, cells_numS, numS_fold]; rfl) ?_
      refine hK5 _ ?_
      refine AWP.seqk fun K10 hK10 => ?_
      refine AWP.old fun hold => ?_
      refine AWP.draw 2 Try.checked.mixed (by kernel_rfl) (by simp) ?_
      simp only [List.take_succ_cons, List.take_zero, List.drop_succ_cons, List.drop_zero]
      refine DP.runFk 1 (by simp (disch := first|omega|(simp only[ln];omega)) [runDf.eq_def, runF1, runF2, stepF.eq_def, updo.eq_def, hupo.eq_def, opSto1.eq_def, List.take_succ_cons, List.take_zero, idf_Wd', idf_numS, cells_numS, numS_fold]; rfl) fun fs11 hfs11 => ?_
      replace hfs11 : fs11.length = 1 := hfs11.trans rfl
      simp only [List.drop_succ_cons, List.drop_zero]
      refine DP.runF1q (by simp (disch := first|omega|(simp only[ln];omega)) [runDf.eq_def, runF1, runF2, stepF.eq_def, updo.eq_def, hupo.eq_def, opSto1.eq_def, idf_Wd', idf_numS, cells_numS, numS_fold]; rfl) fun fq12 hfq12 => ?_
      simp [qids, asksB, Op.operands, topId] at hfq12
      simp only [updo]
      refine DQ.sto1 (m := 2) [1] _ (by simp (disch := first|omega|(simp only[ln];omega)) [runDf.eq_def, runF1, runF2, stepF.eq_def, updo.eq_def, hupo.eq_def, opSto1.eq_def, idf_Wd', idf_numS, cells_numS, numS_fold]; rfl) rfl (by simp only [List.length_append, List.length_cons, List.length_nil, hfs11]; omega) (by kernel_rfl) (by intro k f hk hex; simp only [List.mem_cons, List.not_mem_nil, or_false] at hex; rcases hex with rfl <;> (simp [List.getElem?_append, hfs11] at hk; subst hk; refine ⟨?_, by first | omega | (simp; done) | (simp; omega)⟩; simp [qids, asksB, Op.operands, Call.operands, topId, numS, numI, Wd, hfq12]; try omega)) ?_
      try simp only []
      refine DQ.sto1 (m := 2) [] _ (by simp (disch := first|omega|(simp only[ln];omega)) [runDf.eq_def, runF1, runF2, stepF.eq_def, updo.eq_def, hupo.eq_def, opSto1.eq_def, idf_Wd', idf_numS, cells_numS, numS_fold]; rfl) rfl (by simp only [List.length_append, List.length_cons, List.length_nil, hfs11]; omega) (by kernel_rfl) (by intro k f hk hex; simp only [List.not_mem_nil] at hex) ?_
      try simp only []
      refine hK10 _ ?_
      refine AWP.ret ?_
      exact hK _ _ _ _ trivial ((Fin.mk (by simp [aRes, aResL, aRes1, idf_Wd', idf_numS, cells_numS, numS_fold]; rfl)).cast (by rw [e.1, e.2]))
    · try simp only [decide_eq_true_eq, decide_eq_false_iff_not] at h32
      have e := eu.2.2 h30 h32
      refine AWP.seqk fun K13 hK13 => ?_
      refine AWP.draw 3 Try.checked.mixed (by kernel_rfl) (by simp) ?_
      simp only [List.take_succ_cons, List.take_zero, List.drop_succ_cons, List.drop_zero]
      refine DP.runFk 1 (by simp (disch := first|omega|(simp only[ln];omega)) [runDf.eq_def, runF1, runF2, stepF.eq_def, updo.eq_def, hupo.eq_def, opSto1.eq_def, List.take_succ_cons, List.take_zero, idf_Wd', idf_numS, cells_numS, numS_fold]; rfl) fun fs14 hfs14 => ?_
      replace hfs14 : fs14.length = 1 := hfs14.trans rfl
      simp only [List.drop_succ_cons, List.drop_zero]
      refine DP.fcall (l1Int_fc 1 (by omega) (by omega)) rfl rfl rfl hb106 (by simp (disch := first|omega|(simp only[ln];omega)) [idf_Wd', idf_numS, cells_numS, numS_fold]) (by simp (disch := first|omega|(simp only[ln];omega))) (by simp) ?_
      simp only [updo]
      refine DP.fcall (l1Sub_fc (bqs S) (Bg.i64 (n := 1) (by omega) (by omega)) (by omega) (by omega)) rfl rfl rfl hb202 (by simp (disch := first|omega|(simp only[ln];omega)) [idf_Wd', idf_numS, cells_numS, numS_fold]) (by simp (disch := first|omega|(simp only[ln];omega))) (by simp) ?_
      simp only [updo]
      refine DQ.runF (m := 3) (by simp only [List.length_append, List.length_cons, List.length_nil, hfs14]; omega) _ _ _ (by kernel_rfl) rfl (by simp (disch := first|omega|(simp only[ln];omega)) [runDf.eq_def, runF1, runF2, stepF.eq_def, updo.eq_def, hupo.eq_def, opSto1.eq_def, idf_Wd', idf_numS, cells_numS, numS_fold]; rfl) ?_
      refine hK13 _ ?_
      refine AWP.region ?_
      refine AOPS.runk 2 (by simp (disch := first|omega|(simp only[ln];omega)) [List.take_succ_cons, List.take_zero, idf_Wd', idf_numS, cells_numS, numS_fold]; rfl) ?_
      simp only [List.drop_succ_cons, List.drop_zero]
      refine AOPS.fcall (l1Add_fc (brs (decide (a < 0))) hb (by omega) (by omega)) rfl rfl rfl hb104 (by simp (disch := first|omega|(simp only[ln];omega)) [idf_Wd', idf_numS, cells_numS, numS_fold]) (by simp (disch := first|omega|(simp only[ln];omega))) (by simp) ?_
      simp only [puts_some, updo]
      refine AOPS.all (by simp (disch := first|omega|(simp only[ln];omega)) [idf_Wd', idf_numS, cells_numS, numS_fold]; rfl) ?_
      refine hK5 _ ?_
      refine AWP.seqk fun K15 hK15 => ?_
      refine AWP.old fun hold => ?_
      refine AWP.draw 2 Try.checked.mixed (by kernel_rfl) (by simp) ?_
      simp only [List.take_succ_cons, List.take_zero, List.drop_succ_cons, List.drop_zero]
      refine DP.runFk 1 (by simp (disch := first|omega|(simp only[ln];omega)) [runDf.eq_def, runF1, runF2, stepF.eq_def, updo.eq_def, hupo.eq_def, opSto1.eq_def, List.take_succ_cons, List.take_zero, idf_Wd', idf_numS, cells_numS, numS_fold]; rfl) fun fs16 hfs16 => ?_
      replace hfs16 : fs16.length = 1 := hfs16.trans rfl
      simp only [List.drop_succ_cons, List.drop_zero]
      refine DP.runF1q (by simp (disch := first|omega|(simp only[ln];omega)) [runDf.eq_def, runF1, runF2, stepF.eq_def, updo.eq_def, hupo.eq_def, opSto1.eq_def, idf_Wd', idf_numS, cells_numS, numS_fold]; rfl) fun fq17 hfq17 => ?_
      simp [qids, asksB, Op.operands, topId] at hfq17
      simp only [updo]
      refine DQ.sto1 (m := 2) [1] _ (by simp (disch := first|omega|(simp only[ln];omega)) [runDf.eq_def, runF1, runF2, stepF.eq_def, updo.eq_def, hupo.eq_def, opSto1.eq_def, idf_Wd', idf_numS, cells_numS, numS_fold]; rfl) rfl (by simp only [List.length_append, List.length_cons, List.length_nil, hfs16]; omega) (by kernel_rfl) (by intro k f hk hex; simp only [List.mem_cons, List.not_mem_nil, or_false] at hex; rcases hex with rfl <;> (simp [List.getElem?_append, hfs16] at hk; subst hk; refine ⟨?_, by first | omega | (simp; done) | (simp; omega)⟩; simp [qids, asksB, Op.operands, Call.operands, topId, numS, numI, Wd, hfq17]; try omega)) ?_
      try simp only []
      refine DQ.sto1 (m := 2) [] _ (by simp (disch := first|omega|(simp only[ln];omega)) [runDf.eq_def, runF1, runF2, stepF.eq_def, updo.eq_def, hupo.eq_def, opSto1.eq_def, idf_Wd', idf_numS, cells_numS, numS_fold]; rfl) rfl (by simp only [List.length_append, List.length_cons, List.length_nil, hfs16]; omega) (by kernel_rfl) (by intro k f hk hex; simp only [List.not_mem_nil] at hex) ?_
      try simp only []
      refine hK15 _ ?_
      refine AWP.ret ?_
      exact hK _ _ _ _ trivial ((Fin.mk (by simp [aRes, aResL, aRes1, idf_Wd', idf_numS, cells_numS, numS_fold]; rfl)).cast (by rw [e.1, e.2]))
  · try simp only [decide_eq_true_eq, decide_eq_false_iff_not] at h30
    have e := eu.1 h30
    refine AWP.skip ?_
    refine hK5 _ ?_
    refine AWP.seqk fun K18 hK18 => ?_
    refine AWP.old fun hold => ?_
    refine AWP.draw 2 Try.checked.mixed (by kernel_rfl) (by simp) ?_
    simp only [List.take_succ_cons, List.take_zero, List.drop_succ_cons, List.drop_zero]
    refine DP.runFk 1 (by simp (disch := first|omega|(simp only[ln];omega)) [runDf.eq_def, runF1, runF2, stepF.eq_def, updo.eq_def, hupo.eq_def, opSto1.eq_def, List.take_succ_cons, List.take_zero, idf_Wd', idf_numS, cells_numS, numS_fold]; rfl) fun fs19 hfs19 => ?_
    replace hfs19 : fs19.length = 1 := hfs19.trans rfl
    simp only [List.drop_succ_cons, List.drop_zero]
    refine DP.runF1q (by simp (disch := first|omega|(simp only[ln];omega)) [runDf.eq_def, runF1, runF2, stepF.eq_def, updo.eq_def, hupo.eq_def, opSto1.eq_def, idf_Wd', idf_numS, cells_numS, numS_fold]; rfl) fun fq20 hfq20 => ?_
    simp [qids, asksB, Op.operands, topId] at hfq20
    simp only [updo]
    refine DQ.sto1 (m := 2) [1] _ (by simp (disch := first|omega|(simp only[ln];omega)) [runDf.eq_def, runF1, runF2, stepF.eq_def, updo.eq_def, hupo.eq_def, opSto1.eq_def, idf_Wd', idf_numS, cells_numS, numS_fold]; rfl) rfl (by simp only [List.length_append, List.length_cons, List.length_nil, hfs19]; omega) (by kernel_rfl) (by intro k f hk hex; simp only [List.mem_cons, List.not_mem_nil, or_false] at hex; rcases hex with rfl <;> (simp [List.getElem?_append, hfs19] at hk; subst hk; refine ⟨?_, by first | omega | (simp; done) | (simp; omega)⟩; simp [qids, asksB, Op.operands, Call.operands, topId, numS, numI, Wd, hfq20]; try omega)) ?_
    try simp only []
    refine DQ.sto1 (m := 2) [] _ (by simp (disch := first|omega|(simp only[ln];omega)) [runDf.eq_def, runF1, runF2, stepF.eq_def, updo.eq_def, hupo.eq_def, opSto1.eq_def, idf_Wd', idf_numS, cells_numS, numS_fold]; rfl) rfl (by simp only [List.length_append, List.length_cons, List.length_nil, hfs19]; omega) (by kernel_rfl) (by intro k f hk hex; simp only [List.not_mem_nil] at hex) ?_
    try simp only []
    refine hK18 _ ?_
    refine AWP.ret ?_
    exact hK _ _ _ _ trivial ((Fin.mk (by simp [aRes, aResL, aRes1, idf_Wd', idf_numS, cells_numS, numS_fold]; rfl)).cast (by rw [e.1, e.2]))

set_option maxHeartbeats 2000000 in
theorem l3Make_fc {j : Nat} (x y w : Int) (hw : w ≠ 0) (bx : Bg j x) (bY : Bg j y) (bw : Bg j w) (hj0 : 1 ≤ j) (hj : j ≤ 16777216) : FC Try.prog 103 [numS x, numS y, numS w] (l3A (nrm w x / gcd3 x y w) (nrm w y / gcd3 x y w) (nrm w w / gcd3 x y w)) := by
  have hgp := gcd3_pos (x := x) (y := y) hw
  have hg3 := gcd3_nrm x y w
  refine FC.body Try.func103 rfl (by simp [idfL, idf, idfLL_iff, idf_Wd', idf_numS, cells_numS, numS_fold]) (by simp [idfL, idf, l3A, l3C, idf_Wd']) 47 rfl fun nx K hK => ?_
  refine AWP.seqk fun K1 hK1 => ?_
  refine AWP.region (AOPS.all (by simp (disch := first|omega|(simp only[ln];omega)) [idf_Wd', idf_numS, cells_numS, numS_fold]; rfl) ?_)
  refine hK1 _ ?_
  refine AWP.seqk fun K2 hK2 => ?_
  have J2 : ∀ s : St, (∃ X Y W : Int, X = nrm w x ∧ Y = nrm w y ∧ W = nrm w w ∧ s.env 3 = .ptr nx 0 0 ∧ s.env 4 = .ptr (nx + 1) 0 0 ∧ s.env 5 = .ptr (nx + 1 + 1) 0 0 ∧ s.env 6 = .ptr (nx + 1 + 1 + 1) 0 0 ∧ s.heap nx = some (2, [[.bool (decide (X < 0)), Wd .u32 (dg X)]]) ∧ s.heap (nx + 1) = some (2, [[.bool (decide (Y < 0)), Wd .u32 (dg Y)]]) ∧ s.heap (nx + 1 + 1) = some (2, [[.bool (decide (W < 0)), Wd .u32 (dg W)]]) ∧ s.heap (nx + 1 + 1 + 1) = some (6, [[.bool false, .nsl, .bool false, .nsl, .bool false, .nsl]]) ∧ nx + 1 + 1 + 1 < s.nx ∧ s.nt = 47) → K2 s := by
    rintro ⟨e, H, mm, nt⟩ ⟨X, Y, W, hX, hY, hW, h3, h4, h5, h6, hA, hB, hC, hD, hm, rfl⟩
    simp only [] at h3 h4 h5 h6 hA hB hC hD hm
    rw [← hX, ← hY, ← hW] at hg3
    have cX : Bg j X := by rw [hX]; exact bx.nrm
    have cY : Bg j Y := by rw [hY]; exact bY.nrm
    have cW : Bg j W := by rw [hW]; exact bw.nrm
    have bG1 : Bg j ((Int.gcd X Y : Nat) : Int) := Bg.gcd cX.abs cY.abs
    have bG : Bg j (gcd3 x y w) := by rw [← hg3]; exact Bg.gcd bG1 cW.abs
    have hg2 : FC Try.prog 169 [numS ((Int.gcd X Y : Nat) : Int), numS W] (numS (gcd3 x y w)) := by
      have h := l1Gcd_fc ((Int.gcd X Y : Nat) : Int) W bG1 cW hj
      have e : ((Int.gcd ((Int.gcd X Y : Nat) : Int) W : Nat) : Int) = gcd3 x y w := by rw [← hg3]; simp [Int.gcd, gcd3]
      rw [e] at h; exact h
    obtain ⟨cc, hcf, hce⟩ : ∃ c : Int, FC Try.prog 168 [numS (gcd3 x y w), numS 1] (.int .i64 c) ∧ (c == 0) = decide (gcd3 x y w = 1) := ⟨_, l1Cmp_fc bG (Bg.i64 (n := 1) (by omega) (by omega)) (by omega) (by omega), one_cmp _⟩
    generalize hgg : gcd3 x y w = g at *
    refine hK2 _ ?_
    refine AWP.seqk fun K3 hK3 => ?_
    refine AWP.draw 6 Try.checked.mixed (by kernel_rfl) (by simp) ?_
    simp only [List.take_succ_cons, List.take_zero, List.drop_succ_cons, List.drop_zero]
    refine DP.runFk 2 (by simp (disch := first|omega|(simp only[ln];omega)) [runDf.eq_def, runF1, runF2, stepF.eq_def, updo.eq_def, hupo.eq_def, opSto1.eq_def, List.take_succ_cons, List.take_zero, idf_Wd', idf_numS, cells_numS, numS_fold, h3, h4, h5, hA, hB, hC, Nat.ne_of_lt hm]; rfl) fun fs4 hfs4 => ?_
    replace hfs4 : fs4.length = 2 := hfs4.trans rfl
    simp only [List.drop_succ_cons, List.drop_zero]
    refine DP.fcall (l1Gcd_fc X Y cX cY hj) rfl rfl rfl hb169 (by simp (disch := first|omega|(simp only[ln];omega)) [idf_Wd', h3, h4, h5, hA, hB, hC, Nat.ne_of_lt hm, idf_numS, cells_numS, numS_fold]) (by simp (disch := first|omega|(simp only[ln];omega)) [h3, h4, h5, hA, hB, hC, Nat.ne_of_lt hm]) (by simp) ?_
    simp only [updo]
    refine DP.runFk 1 (by simp (disch := first|omega|(simp only[ln];omega)) [runDf.eq_def, runF1, runF2, stepF.eq_def, updo.eq_def, hupo.eq_def, opSto1.eq_def, List.take_succ_cons, List.take_zero, idf_Wd', idf_numS, cells_numS, numS_fold, h3, h4, h5, hA, hB, hC, Nat.ne_of_lt hm]; rfl) fun fs5 hfs5 => ?_
    replace hfs5 : fs5.length = 1 := hfs5.trans rfl
    simp only [List.drop_succ_cons, List.drop_zero]
    refine DP.fcall (hg2) rfl rfl rfl hb169 (by simp (disch := first|omega|(simp only[ln];omega)) [idf_Wd', h3, h4, h5, hA, hB, hC, Nat.ne_of_lt hm, idf_numS, cells_numS, numS_fold]) (by simp (disch := first|omega|(simp only[ln];omega)) [h3, h4, h5, hA, hB, hC, Nat.ne_of_lt hm]) (by simp) ?_
    simp only [updo]
    refine DP.runFk 1 (by simp (disch := first|omega|(simp only[ln];omega)) [runDf.eq_def, runF1, runF2, stepF.eq_def, updo.eq_def, hupo.eq_def, opSto1.eq_def, List.take_succ_cons, List.take_zero, idf_Wd', idf_numS, cells_numS, numS_fold, h3, h4, h5, hA, hB, hC, Nat.ne_of_lt hm]; rfl) fun fs6 hfs6 => ?_
    replace hfs6 : fs6.length = 1 := hfs6.trans rfl
    simp only [List.drop_succ_cons, List.drop_zero]
    refine DQ.runF (m := 6) (by simp only [List.length_append, List.length_cons, List.length_nil, hfs4, hfs5, hfs6]; omega) _ _ _ (by kernel_rfl) rfl (by simp (disch := first|omega|(simp only[ln];omega)) [runDf.eq_def, runF1, runF2, stepF.eq_def, updo.eq_def, hupo.eq_def, opSto1.eq_def, idf_Wd', idf_numS, cells_numS, numS_fold, h3, h4, h5, hA, hB, hC, Nat.ne_of_lt hm]; rfl) ?_
    refine hK3 _ ?_
    refine AWP.seqk fun K7 hK7 => ?_
    refine AWP.seqk fun K8 hK8 => ?_
    refine AWP.draw 4 Try.checked.mixed (by kernel_rfl) (by simp) ?_
    simp only [List.take_succ_cons, List.take_zero, List.drop_succ_cons, List.drop_zero]
    refine DP.runFk 1 (by simp (disch := first|omega|(simp only[ln];omega)) [runDf.eq_def, runF1, runF2, stepF.eq_def, updo.eq_def, hupo.eq_def, opSto1.eq_def, List.take_succ_cons, List.take_zero, idf_Wd', idf_numS, cells_numS, numS_fold]; rfl) fun fs9 hfs9 => ?_
    replace hfs9 : fs9.length = 1 := hfs9.trans rfl
    simp only [List.drop_succ_cons, List.drop_zero]
    refine DP.fcall (l1Int_fc 1 (by omega) (by omega)) rfl rfl rfl hb106 (by simp (disch := first|omega|(simp only[ln];omega)) [idf_Wd', idf_numS, cells_numS, numS_fold]) (by simp (disch := first|omega|(simp only[ln];omega))) (by simp) ?_
    simp only [updo]
    refine DP.fcall (hcf) rfl rfl rfl hb168 (by simp (disch := first|omega|(simp only[ln];omega)) [idf_Wd', idf_numS, cells_numS, numS_fold]) (by simp (disch := first|omega|(simp only[ln];omega))) (by simp) ?_
    simp only [updo]
    refine DP.runFk 1 (by simp (disch := first|omega|(simp only[ln];omega)) [runDf.eq_def, runF1, runF2, stepF.eq_def, updo.eq_def, hupo.eq_def, opSto1.eq_def, List.take_succ_cons, List.take_zero, idf_Wd', idf_numS, cells_numS, numS_fold]; rfl) fun fs10 hfs10 => ?_
    replace hfs10 : fs10.length = 1 := hfs10.trans rfl
    simp only [List.drop_succ_cons, List.drop_zero]
    refine DQ.runF (m := 4) (by simp only [List.length_append, List.length_cons, List.length_nil, hfs9, hfs10]; omega) _ _ _ (by kernel_rfl) rfl (by simp (disch := first|omega|(simp only[ln];omega)) [runDf.eq_def, runF1, runF2, stepF.eq_def, updo.eq_def, hupo.eq_def, opSto1.eq_def, idf_Wd', idf_numS, cells_numS, numS_fold]; rfl) ?_
    refine hK8 _ ?_
    refine cond_ok (!decide (g = 1)) (by simp (disch := first|omega|(simp only[ln];omega)) [bne, hce]) (fun h24 => ?_) (fun h24 => ?_)
    · try simp only [decide_eq_true_eq, decide_eq_false_iff_not] at h24
      refine AWP.seqk fun K11 hK11 => ?_
      refine AWP.region ?_
      refine AOPS.runk 2 (by simp (disch := first|omega|(simp only[ln];omega)) [List.take_succ_cons, List.take_zero, idf_Wd', idf_numS, cells_numS, numS_fold, h3, hA]; rfl) ?_
      simp only [List.drop_succ_cons, List.drop_zero]
      refine AOPS.fcall (l1Div_fc X g (by omega) cX bG hj) rfl rfl rfl hb194 (by simp (disch := first|omega|(simp only[ln];omega)) [idf_Wd', h3, hA, idf_numS, cells_numS, numS_fold]) (by simp (disch := first|omega|(simp only[ln];omega)) [h3, hA]) (by simp) ?_
      simp only [puts_some, updo]
      refine AOPS.all (by simp (disch := first|omega|(simp only[ln];omega)) [idf_Wd', idf_numS, cells_numS, numS_fold, h3, hA]; rfl) ?_
      refine hK11 _ ?_
      refine AWP.seqk fun K12 hK12 => ?_
      refine AWP.region ?_
      refine AOPS.runk 2 (by simp (disch := first|omega|(simp only[ln];omega)) [List.take_succ_cons, List.take_zero, idf_Wd', idf_numS, cells_numS, numS_fold, h4, hB]; rfl) ?_
      simp only [List.drop_succ_cons, List.drop_zero]
      refine AOPS.fcall (l1Div_fc Y g (by omega) cY bG hj) rfl rfl rfl hb194 (by simp (disch := first|omega|(simp only[ln];omega)) [idf_Wd', h4, hB, idf_numS, cells_numS, numS_fold]) (by simp (disch := first|omega|(simp only[ln];omega)) [h4, hB]) (by simp) ?_
      simp only [puts_some, updo]
      refine AOPS.all (by simp (disch := first|omega|(simp only[ln];omega)) [idf_Wd', idf_numS, cells_numS, numS_fold, h4, hB]; rfl) ?_
      refine hK12 _ ?_
      refine AWP.region ?_
      refine AOPS.runk 2 (by simp (disch := first|omega|(simp only[ln];omega)) [List.take_succ_cons, List.take_zero, idf_Wd', idf_numS, cells_numS, numS_fold, h5, hC]; rfl) ?_
      simp only [List.drop_succ_cons, List.drop_zero]
      refine AOPS.fcall (l1Div_fc W g (by omega) cW bG hj) rfl rfl rfl hb194 (by simp (disch := first|omega|(simp only[ln];omega)) [idf_Wd', h5, hC, idf_numS, cells_numS, numS_fold]) (by simp (disch := first|omega|(simp only[ln];omega)) [h5, hC]) (by simp) ?_
      simp only [puts_some, updo]
      refine AOPS.all (by simp (disch := first|omega|(simp only[ln];omega)) [idf_Wd', idf_numS, cells_numS, numS_fold, h5, hC]; rfl) ?_
      refine hK7 _ ?_
      refine AWP.seqk fun K13 hK13 => ?_
      refine AWP.region (AOPS.all (by simp (disch := first|omega|(simp only[ln];omega)) [idf_Wd', idf_numS, cells_numS, numS_fold, h3, h4, h5, h6, hD]; rfl) ?_)
      refine hK13 _ ?_
      refine AWP.ret ?_
      exact hK _ _ _ _ trivial ((Fin.mk (by simp (disch := omega) [aRes, aResL, aRes1, h6, idf_Wd', idf_numS, cells_numS, numS_fold]; rfl)).cast (by rw [← hX, ← hY, ← hW]; first | done | rfl))
    · try simp only [decide_eq_true_eq, decide_eq_false_iff_not] at h24
      have hg1 : g = 1 := by simpa using h24
      refine AWP.skip ?_
      refine hK7 _ ?_
      refine AWP.seqk fun K14 hK14 => ?_
      refine AWP.region (AOPS.all (by simp (disch := first|omega|(simp only[ln];omega)) [idf_Wd', idf_numS, cells_numS, numS_fold, h3, h4, h5, h6, hA, hB, hC, hD]; rfl) ?_)
      refine hK14 _ ?_
      refine AWP.ret ?_
      exact hK _ _ _ _ trivial ((Fin.mk (by simp (disch := omega) [aRes, aResL, aRes1, h6, idf_Wd', idf_numS, cells_numS, numS_fold]; rfl)).cast (by rw [← hX, ← hY, ← hW, hg1, Int.ediv_one, Int.ediv_one, Int.ediv_one]; first | done | rfl))
  refine AWP.seqk fun K15 hK15 => ?_
  refine AWP.region (AOPS.all (by simp (disch := first|omega|(simp only[ln];omega)) [idf_Wd', idf_numS, cells_numS, numS_fold]; rfl) ?_)
  refine hK15 _ ?_
  refine cond_ok (decide (w < 0)) (by simp (disch := first|omega|(simp only[ln];omega))) (fun h9 => ?_) (fun h9 => ?_)
  · try simp only [decide_eq_true_eq, decide_eq_false_iff_not] at h9
    refine AWP.old fun hold => ?_
    refine AWP.draw 6 Try.checked.mixed (by kernel_rfl) (by simp) ?_
    simp only [List.take_succ_cons, List.take_zero, List.drop_succ_cons, List.drop_zero]
    refine DP.runFk 1 (by simp (disch := first|omega|(simp only[ln];omega)) [runDf.eq_def, runF1, runF2, stepF.eq_def, updo.eq_def, hupo.eq_def, opSto1.eq_def, List.take_succ_cons, List.take_zero, idf_Wd', idf_numS, cells_numS, numS_fold]; rfl) fun fs16 hfs16 => ?_
    replace hfs16 : fs16.length = 1 := hfs16.trans rfl
    simp only [List.drop_succ_cons, List.drop_zero]
    refine DP.fcall (l1Neg_fc x) rfl rfl rfl hb193 (by simp (disch := first|omega|(simp only[ln];omega)) [idf_Wd', idf_numS, cells_numS, numS_fold]) (by simp (disch := first|omega|(simp only[ln];omega))) (by simp) ?_
    simp only [updo]
    refine DP.runF1q (by simp (disch := first|omega|(simp only[ln];omega)) [runDf.eq_def, runF1, runF2, stepF.eq_def, updo.eq_def, hupo.eq_def, opSto1.eq_def, idf_Wd', idf_numS, cells_numS, numS_fold]; rfl) fun fq17 hfq17 => ?_
    simp [qids, asksB, Op.operands, topId] at hfq17
    simp only [updo]
    refine DP.fcall (l1Neg_fc y) rfl rfl rfl hb193 (by simp (disch := first|omega|(simp only[ln];omega)) [idf_Wd', idf_numS, cells_numS, numS_fold]) (by simp (disch := first|omega|(simp only[ln];omega))) (by simp) ?_
    simp only [updo]
    refine DP.runF1q (by simp (disch := first|omega|(simp only[ln];omega)) [runDf.eq_def, runF1, runF2, stepF.eq_def, updo.eq_def, hupo.eq_def, opSto1.eq_def, idf_Wd', idf_numS, cells_numS, numS_fold]; rfl) fun fq18 hfq18 => ?_
    simp [qids, asksB, Op.operands, topId] at hfq18
    simp only [updo]
    refine DP.fcall (l1Neg_fc w) rfl rfl rfl hb193 (by simp (disch := first|omega|(simp only[ln];omega)) [idf_Wd', idf_numS, cells_numS, numS_fold]) (by simp (disch := first|omega|(simp only[ln];omega))) (by simp) ?_
    simp only [updo]
    refine DQ.sto1 (m := 6) [2, 3, 4] _ (by simp (disch := first|omega|(simp only[ln];omega)) [runDf.eq_def, runF1, runF2, stepF.eq_def, updo.eq_def, hupo.eq_def, opSto1.eq_def, idf_Wd', idf_numS, cells_numS, numS_fold]; rfl) rfl (by simp only [List.length_append, List.length_cons, List.length_nil, hfs16]; omega) (by kernel_rfl) (by intro k f hk hex; simp only [List.mem_cons, List.not_mem_nil, or_false] at hex; rcases hex with rfl | rfl | rfl <;> (simp [List.getElem?_append, hfs16] at hk; subst hk; refine ⟨?_, by first | omega | (simp; done) | (simp; omega)⟩; simp [qids, asksB, Op.operands, Call.operands, topId, numS, numI, Wd, hfq17, hfq18]; try omega)) ?_
    try simp only []
    refine DQ.sto1 (m := 6) [4, 5] _ (by simp (disch := first|omega|(simp only[ln];omega)) [runDf.eq_def, runF1, runF2, stepF.eq_def, updo.eq_def, hupo.eq_def, opSto1.eq_def, idf_Wd', idf_numS, cells_numS, numS_fold]; rfl) rfl (by simp only [List.length_append, List.length_cons, List.length_nil, hfs16]; omega) (by kernel_rfl) (by intro k f hk hex; simp only [List.mem_cons, List.not_mem_nil, or_false] at hex; rcases hex with rfl | rfl <;> (simp [List.getElem?_append, hfs16] at hk; subst hk; refine ⟨?_, by first | omega | (simp; done) | (simp; omega)⟩; simp [qids, asksB, Op.operands, Call.operands, topId, numS, numI, Wd, hfq17, hfq18]; try omega)) ?_
    try simp only []
    refine DQ.sto1 (m := 6) [] _ (by simp (disch := first|omega|(simp only[ln];omega)) [runDf.eq_def, runF1, runF2, stepF.eq_def, updo.eq_def, hupo.eq_def, opSto1.eq_def, idf_Wd', idf_numS, cells_numS, numS_fold]; rfl) rfl (by simp only [List.length_append, List.length_cons, List.length_nil, hfs16]; omega) (by kernel_rfl) (by intro k f hk hex; simp only [List.not_mem_nil] at hex) ?_
    try simp only []
    refine J2 _ ?_
    exact ⟨-x, -y, -w, by simp [nrm, h9], by simp [nrm, h9], by simp [nrm, h9], by simp, by simp, by simp, by simp, by simp (disch := omega), by simp (disch := omega), by simp (disch := omega), by simp (disch := omega), by simp, rfl⟩
  · try simp only [decide_eq_true_eq, decide_eq_false_iff_not] at h9
    refine AWP.skip ?_
    refine J2 _ ?_
    exact ⟨x, y, w, by simp [nrm, h9], by simp [nrm, h9], by simp [nrm, h9], by simp, by simp, by simp, by simp, by simp (disch := omega), by simp (disch := omega), by simp (disch := omega), by simp (disch := omega), by simp, rfl⟩

set_option maxHeartbeats 2000000 in
theorem l3Point_fc {k : Nat} (x y w : Int) (bx : Bg k x) (bY : Bg k y) (bw : Bg k w) (hk : k ≤ 68719476736) : FC Try.prog 102 [l3A x y w] (.tup [.agg [.int .u64 (pt3 x y w).x.a, .int .u64 (pt3 x y w).x.b, .int .u64 (pt3 x y w).x.c, .int .u64 (pt3 x y w).x.d, .int .u64 (pt3 x y w).y.a, .int .u64 (pt3 x y w).y.b, .int .u64 (pt3 x y w).y.c, .int .u64 (pt3 x y w).y.d, .int .u64 (pt3 x y w).w.a, .int .u64 (pt3 x y w).w.b, .int .u64 (pt3 x y w).w.c, .int .u64 (pt3 x y w).w.d], .bool (sm x y w)]) := by
  have hs := l3Small_fc bx bY bw hk
  have w1 := l1Wide_fc bx hk
  have w2 := l1Wide_fc bY hk
  have w3 := l1Wide_fc bw hk
  rw [wdT_l] at w1 w2 w3
  unfold W4.l at w1 w2 w3
  refine FC.body Try.func102 rfl (by simp [idfL, idf, idfLL_iff, idf_Wd', idf_numS, cells_numS, numS_fold, l3A, l3C]) (by simp [idfL, idf, idfLL_iff, idf_Wd', idf_numS, cells_numS, numS_fold, l3A, l3C]) 36 rfl fun nx K hK => ?_
  refine AWP.seqk fun K1 hK1 => ?_
  refine AWP.region (AOPS.all (by simp (disch := first|omega|(simp only[ln];omega)) [idf_Wd', idf_numS, cells_numS, numS_fold, l3A, l3C]; rfl) ?_)
  refine hK1 _ ?_
  refine AWP.seqk fun K2 hK2 => ?_
  refine AWP.seqk fun K3 hK3 => ?_
  refine AWP.region ?_
  refine AOPS.runk 1 (by simp (disch := first|omega|(simp only[ln];omega)) [List.take_succ_cons, List.take_zero, idf_Wd', idf_numS, cells_numS, numS_fold, l3A, l3C]; rfl) ?_
  simp only [List.drop_succ_cons, List.drop_zero]
  refine AOPS.fcall (hs) rfl rfl rfl hb167 (by simp (disch := first|omega|(simp only[ln];omega)) [idf_Wd', idf_numS, cells_numS, numS_fold, l3A, l3C]) (by simp (disch := first|omega|(simp only[ln];omega))) (by simp) ?_
  simp only [puts_some, updo]
  refine AOPS.all (by simp (disch := first|omega|(simp only[ln];omega)) [idf_Wd', idf_numS, cells_numS, numS_fold, l3A, l3C]; rfl) ?_
  refine hK3 _ ?_
  refine cond_ok (!(sm x y w)) (by simp (disch := first|omega|(simp only[ln];omega))) (fun h12 => ?_) (fun h12 => ?_)
  · try simp only [decide_eq_true_eq, decide_eq_false_iff_not] at h12
    have hb : sm x y w = false := by simpa using h12
    refine AWP.seqk fun K4 hK4 => ?_
    refine AWP.region (AOPS.all (by simp (disch := first|omega|(simp only[ln];omega)) [idf_Wd', idf_numS, cells_numS, numS_fold, l3A, l3C]; rfl) ?_)
    refine hK4 _ ?_
    refine AWP.ret ?_
    exact hK _ _ _ _ trivial ((Fin.mk (by simp [aRes, aResL, aRes1, idf_Wd', idf_numS, cells_numS, numS_fold, l3A, l3C]; rfl)).cast (by rw [pt3, hb]; rfl))
  · try simp only [decide_eq_true_eq, decide_eq_false_iff_not] at h12
    have hb : sm x y w = true := by simpa using h12
    refine AWP.skip ?_
    refine hK2 _ ?_
    refine AWP.seqk fun K5 hK5 => ?_
    refine AWP.region ?_
    refine AOPS.runk 2 (by simp (disch := first|omega|(simp only[ln];omega)) [List.take_succ_cons, List.take_zero, idf_Wd', idf_numS, cells_numS, numS_fold, l3A, l3C]; rfl) ?_
    simp only [List.drop_succ_cons, List.drop_zero]
    refine AOPS.fcall (w1) rfl rfl rfl hb192 (by simp (disch := first|omega|(simp only[ln];omega)) [idf_Wd', idf_numS, cells_numS, numS_fold, l3A, l3C]) (by simp (disch := first|omega|(simp only[ln];omega))) (by simp) ?_
    simp only [puts_some, updo]
    refine AOPS.all (by simp (disch := first|omega|(simp only[ln];omega)) [idf_Wd', idf_numS, cells_numS, numS_fold, l3A, l3C]; rfl) ?_
    refine hK5 _ ?_
    refine AWP.seqk fun K6 hK6 => ?_
    refine AWP.region ?_
    refine AOPS.runk 2 (by simp (disch := first|omega|(simp only[ln];omega)) [List.take_succ_cons, List.take_zero, idf_Wd', idf_numS, cells_numS, numS_fold, l3A, l3C]; rfl) ?_
    simp only [List.drop_succ_cons, List.drop_zero]
    refine AOPS.fcall (w2) rfl rfl rfl hb192 (by simp (disch := first|omega|(simp only[ln];omega)) [idf_Wd', idf_numS, cells_numS, numS_fold, l3A, l3C]) (by simp (disch := first|omega|(simp only[ln];omega))) (by simp) ?_
    simp only [puts_some, updo]
    refine AOPS.all (by simp (disch := first|omega|(simp only[ln];omega)) [idf_Wd', idf_numS, cells_numS, numS_fold, l3A, l3C]; rfl) ?_
    refine hK6 _ ?_
    refine AWP.seqk fun K7 hK7 => ?_
    refine AWP.region ?_
    refine AOPS.runk 2 (by simp (disch := first|omega|(simp only[ln];omega)) [List.take_succ_cons, List.take_zero, idf_Wd', idf_numS, cells_numS, numS_fold, l3A, l3C]; rfl) ?_
    simp only [List.drop_succ_cons, List.drop_zero]
    refine AOPS.fcall (w3) rfl rfl rfl hb192 (by simp (disch := first|omega|(simp only[ln];omega)) [idf_Wd', idf_numS, cells_numS, numS_fold, l3A, l3C]) (by simp (disch := first|omega|(simp only[ln];omega))) (by simp) ?_
    simp only [puts_some, updo]
    refine AOPS.all (by simp (disch := first|omega|(simp only[ln];omega)) [idf_Wd', idf_numS, cells_numS, numS_fold, l3A, l3C]; rfl) ?_
    refine hK7 _ ?_
    refine AWP.seqk fun K8 hK8 => ?_
    refine AWP.region (AOPS.all (by simp (disch := first|omega|(simp only[ln];omega)) [idf_Wd', idf_numS, cells_numS, numS_fold, l3A, l3C]; rfl) ?_)
    refine hK8 _ ?_
    refine AWP.ret ?_
    exact hK _ _ _ _ trivial ((Fin.mk (by simp [aRes, aResL, aRes1, idf_Wd', idf_numS, cells_numS, numS_fold, l3A, l3C]; rfl)).cast (by rw [pt3, if_pos hb, hb]))

theorem l3Spot_fc (x y : Int) (hx1 : -9223372036854775808 ≤ x) (hx2 : x ≤ 9223372036854775807) (hy1 : -9223372036854775808 ≤ y) (hy2 : y ≤ 9223372036854775807) : FC Try.prog 123 [.agg [.int .i64 x, .int .i64 y]] (l3A x y 1) := by
  refine FC.body Try.func123 rfl (by simp [idfL, idf, idfLL_iff, idf_Wd', idf_numS, cells_numS, numS_fold]) (by simp [idfL, idf, l3A, l3C, idf_Wd']) 11 rfl fun nx K hK => ?_
  refine AWP.seqk fun K1 hK1 => ?_
  refine AWP.region (AOPS.all (by simp (disch := first|omega|(simp only[ln];omega)) [idf_Wd', idf_numS, cells_numS, numS_fold]; rfl) ?_)
  refine hK1 _ ?_
  refine AWP.seqk fun K2 hK2 => ?_
  refine AWP.draw 8 Try.checked.mixed (by kernel_rfl) (by simp) ?_
  simp only [List.take_succ_cons, List.take_zero, List.drop_succ_cons, List.drop_zero]
  refine DP.runFk 2 (by simp (disch := first|omega|(simp only[ln];omega)) [runDf.eq_def, runF1, runF2, stepF.eq_def, updo.eq_def, hupo.eq_def, opSto1.eq_def, List.take_succ_cons, List.take_zero, idf_Wd', idf_numS, cells_numS, numS_fold]; rfl) fun fs3 hfs3 => ?_
  replace hfs3 : fs3.length = 2 := hfs3.trans rfl
  simp only [List.drop_succ_cons, List.drop_zero]
  refine DP.fcall (l1Int_fc x hx1 hx2) rfl rfl rfl hb106 (by simp (disch := first|omega|(simp only[ln];omega)) [idf_Wd', idf_numS, cells_numS, numS_fold]) (by simp (disch := first|omega|(simp only[ln];omega))) (by simp) ?_
  simp only [updo]
  refine DP.runFk 2 (by simp (disch := first|omega|(simp only[ln];omega)) [runDf.eq_def, runF1, runF2, stepF.eq_def, updo.eq_def, hupo.eq_def, opSto1.eq_def, List.take_succ_cons, List.take_zero, idf_Wd', idf_numS, cells_numS, numS_fold]; rfl) fun fs4 hfs4 => ?_
  replace hfs4 : fs4.length = 2 := hfs4.trans rfl
  simp only [List.drop_succ_cons, List.drop_zero]
  refine DP.fcall (l1Int_fc y hy1 hy2) rfl rfl rfl hb106 (by simp (disch := first|omega|(simp only[ln];omega)) [idf_Wd', idf_numS, cells_numS, numS_fold]) (by simp (disch := first|omega|(simp only[ln];omega))) (by simp) ?_
  simp only [updo]
  refine DP.fcall (l1Int_fc 1 (by omega) (by omega)) rfl rfl rfl hb106 (by simp (disch := first|omega|(simp only[ln];omega)) [idf_Wd', idf_numS, cells_numS, numS_fold]) (by simp (disch := first|omega|(simp only[ln];omega))) (by simp) ?_
  simp only [updo]
  refine DP.runFk 1 (by simp (disch := first|omega|(simp only[ln];omega)) [runDf.eq_def, runF1, runF2, stepF.eq_def, updo.eq_def, hupo.eq_def, opSto1.eq_def, List.take_succ_cons, List.take_zero, idf_Wd', idf_numS, cells_numS, numS_fold]; rfl) fun fs5 hfs5 => ?_
  replace hfs5 : fs5.length = 1 := hfs5.trans rfl
  simp only [List.drop_succ_cons, List.drop_zero]
  refine DQ.runF (m := 8) (by simp only [List.length_append, List.length_cons, List.length_nil, hfs3, hfs4, hfs5]; omega) _ _ _ (by kernel_rfl) rfl (by simp (disch := first|omega|(simp only[ln];omega)) [runDf.eq_def, runF1, runF2, stepF.eq_def, updo.eq_def, hupo.eq_def, opSto1.eq_def, idf_Wd', idf_numS, cells_numS, numS_fold]; rfl) ?_
  refine hK2 _ ?_
  refine AWP.ret ?_
  exact hK _ _ _ _ trivial ((Fin.mk (by simp [aRes, aResL, aRes1, idf_Wd', idf_numS, cells_numS, numS_fold]; rfl)).cast (by rfl))

theorem pointOfS_fc (x y : Int) (hx1 : -9223372036854775808 ≤ x) (hx2 : x ≤ 9223372036854775807) (hy1 : -9223372036854775808 ≤ y) (hy2 : y ≤ 9223372036854775807) : FC Try.prog 165 [.agg [.int .i64 x, .int .i64 y]] (.agg [.int .u64 (pt3 x y 1).x.a, .int .u64 (pt3 x y 1).x.b, .int .u64 (pt3 x y 1).x.c, .int .u64 (pt3 x y 1).x.d, .int .u64 (pt3 x y 1).y.a, .int .u64 (pt3 x y 1).y.b, .int .u64 (pt3 x y 1).y.c, .int .u64 (pt3 x y 1).y.d, .int .u64 (pt3 x y 1).w.a, .int .u64 (pt3 x y 1).w.b, .int .u64 (pt3 x y 1).w.c, .int .u64 (pt3 x y 1).w.d]) := by
  refine FC.body Try.func165 rfl (by simp [idfL, idf, idfLL_iff, idf_Wd', idf_numS, cells_numS, numS_fold]) (by simp [idfL, idf, idfLL_iff, idf_Wd', idf_numS, cells_numS, numS_fold]) 12 rfl fun nx K hK => ?_
  refine AWP.seqk fun K1 hK1 => ?_
  refine AWP.region (AOPS.all (by simp (disch := first|omega|(simp only[ln];omega)) [idf_Wd', idf_numS, cells_numS, numS_fold]; rfl) ?_)
  refine hK1 _ ?_
  refine AWP.seqk fun K2 hK2 => ?_
  refine AWP.region ?_
  refine AOPS.runk 1 (by simp (disch := first|omega|(simp only[ln];omega)) [List.take_succ_cons, List.take_zero, idf_Wd', idf_numS, cells_numS, numS_fold]; rfl) ?_
  simp only [List.drop_succ_cons, List.drop_zero]
  refine AOPS.fcall (l3Spot_fc x y hx1 hx2 hy1 hy2) rfl rfl rfl hb123 (by simp (disch := first|omega|(simp only[ln];omega)) [idf_Wd', idf_numS, cells_numS, numS_fold]) (by simp (disch := first|omega|(simp only[ln];omega))) (by simp) ?_
  simp only [puts_some, updo]
  refine AOPS.fcall (l3Point_fc x y 1 (Bg.i64 hx1 hx2) (Bg.i64 hy1 hy2) (Bg.i64 (n := 1) (by omega) (by omega)) (by omega)) rfl rfl rfl hb102 (by simp (disch := first|omega|(simp only[ln];omega)) [idf_Wd', idf_numS, cells_numS, numS_fold]) (by simp (disch := first|omega|(simp only[ln];omega))) (by simp) ?_
  simp only [puts_some, updo]
  refine AOPS.all (by simp (disch := first|omega|(simp only[ln];omega)) [idf_Wd', idf_numS, cells_numS, numS_fold]; rfl) ?_
  refine hK2 _ ?_
  refine AWP.seqk fun K3 hK3 => ?_
  refine AWP.region (AOPS.all (by simp (disch := first|omega|(simp only[ln];omega)) [idf_Wd', idf_numS, cells_numS, numS_fold]; rfl) ?_)
  refine hK3 _ ?_
  refine AWP.ret ?_
  exact hK _ _ _ _ trivial (Fin.mk (by simp (disch := first|omega|(simp only[ln];omega)) [aRes, aResL, aRes1, idf_Wd', idf_numS, cells_numS, numS_fold]))

theorem wideOfS_fc (n : Int) (h1 : -9223372036854775808 ≤ n) (h2 : n ≤ 9223372036854775807) : FC Try.prog 162 [.int .i64 n] (.agg [.int .u64 (W4z n).a, .int .u64 (W4z n).b, .int .u64 (W4z n).c, .int .u64 (W4z n).d]) := by
  have w1 := l1Wide_fc (Bg.i64 h1 h2) (by omega)
  rw [wdT_l] at w1
  unfold W4.l at w1
  refine FC.body Try.func162 rfl (by simp [idfL, idf, idfLL_iff, idf_Wd', idf_numS, cells_numS, numS_fold]) (by simp [idfL, idf, idfLL_iff, idf_Wd', idf_numS, cells_numS, numS_fold]) 12 rfl fun nx K hK => ?_
  refine AWP.seqk fun K1 hK1 => ?_
  refine AWP.region (AOPS.all (by simp (disch := first|omega|(simp only[ln];omega)) [idf_Wd', idf_numS, cells_numS, numS_fold]; rfl) ?_)
  refine hK1 _ ?_
  refine AWP.seqk fun K2 hK2 => ?_
  refine AWP.region ?_
  refine AOPS.runk 1 (by simp (disch := first|omega|(simp only[ln];omega)) [List.take_succ_cons, List.take_zero, idf_Wd', idf_numS, cells_numS, numS_fold]; rfl) ?_
  simp only [List.drop_succ_cons, List.drop_zero]
  refine AOPS.fcall (l1Int_fc n h1 h2) rfl rfl rfl hb106 (by simp (disch := first|omega|(simp only[ln];omega)) [idf_Wd', idf_numS, cells_numS, numS_fold]) (by simp (disch := first|omega|(simp only[ln];omega))) (by simp) ?_
  simp only [puts_some, updo]
  refine AOPS.fcall (w1) rfl rfl rfl hb192 (by simp (disch := first|omega|(simp only[ln];omega)) [idf_Wd', idf_numS, cells_numS, numS_fold]) (by simp (disch := first|omega|(simp only[ln];omega))) (by simp) ?_
  simp only [puts_some, updo]
  refine AOPS.all (by simp (disch := first|omega|(simp only[ln];omega)) [idf_Wd', idf_numS, cells_numS, numS_fold]; rfl) ?_
  refine hK2 _ ?_
  refine AWP.seqk fun K3 hK3 => ?_
  refine AWP.region (AOPS.all (by simp (disch := first|omega|(simp only[ln];omega)) [idf_Wd', idf_numS, cells_numS, numS_fold]; rfl) ?_)
  refine hK3 _ ?_
  refine AWP.ret ?_
  exact hK _ _ _ _ trivial (Fin.mk (by simp (disch := first|omega|(simp only[ln];omega)) [aRes, aResL, aRes1, idf_Wd', idf_numS, cells_numS, numS_fold]))

end Go.Proofs.Ytmaebeknmiomnaa

/- Walks: points made and halved by the reference. -/
namespace Go.Proofs.Ytmaebeknmiomnaa
open Go Go.RowKit
set_option linter.unusedSimpArgs false
set_option linter.unusedVariables false
set_option maxRecDepth 100000
attribute [local simp] List.getElem?_cons_zero List.getElem?_cons_succ List.getElem?_toArray runOps stepOp.eq_def agd.eq_def dstOk.eq_def opVal.eq_def opNew.eq_def opSto.eq_def ev.eq_def cv.eq_def puts_some puts_none upd_ap lst.eq_def aBin.eq_def aUn.eq_def aBi_str aBi_isl aBi_osl aBi_nsl aBi_max aBi_min aBi_max3 aConv.eq_def aLd.eq_def aLoad.eq_def aField.eq_def aFld.eq_def aIdx_isl aIdx_osl aSlc_isl aSlc_osl aSlc_str aSlc_nsl bnd.eq_def evs_nil evs_cons aBuild.eq_def aFill splice.eq_def cells_agg cells_int cells_bool cells_str cells_nil cells_nsl cells_isl cells_osl cells_ptr cells_ip cells_fn cells_Wd one_int one_bool one_str one_nil one_nsl one_isl one_osl one_ptr one_ip one_fn one_Wd aSets hupd_eq hupd_ne wrap_i64s wrap_u64s wrap_u32s wrap_u8s wd_getD wd_set wd_len wd_replicate wd_one wd_fold fz_osl hupd_same aSix.eq_def aEqS.eq_def aEqB_bool aEqB_nsl aEqB_nil
attribute [local simp] szT4 byT4 agT4 unT4 zoT4 szT24 byT24 agT24 unT24 zoT24 szT26 byT26 agT26 flT26 fdT26_0 fdT26_1 fdT26_2 fdT26_3 zoT26 szT28 byT28 agT28 flT28 fdT28_0 fdT28_1 fdT28_2 zoT28 szT111 byT111 agT111 elT111 unT111 zoT111 szT113 byT113 agT113 flT113 fdT113_0 fdT113_1 zoT113 szT115 byT115 agT115 flT115 fdT115_0 fdT115_1 fdT115_2 zoT115

theorem eqW1 (n : Nat) (a a' : Int) : eqW Try.prog (n + 1) 24 [.int .u64 a] [.int .u64 a'] = some (a == a') := by
  unfold eqW; simp only [Try.underlying24]; rfl
theorem eqW4 (a b c d a' b' c' d' : Int) : eqW Try.prog 8 26 [.int .u64 a, .int .u64 b, .int .u64 c, .int .u64 d] [.int .u64 a', .int .u64 b', .int .u64 c', .int .u64 d'] = some ((a == a') && ((b == b') && ((c == c') && ((d == d') && true)))) := by
  have hs : Try.prog.stoodInHeld 26 = false := by kernel_rfl
  have hz : szOf Try.prog 24 = some 1 := by kernel_rfl
  have ha : aggT Try.prog 24 = some false := by kernel_rfl
  unfold eqW
  simp only [Try.underlying26, hs]
  simp [eqF, hz, ha, eqW1]

set_option maxHeartbeats 2000000 in
theorem pointMakeS_fc (x y w : W4) (hx : x.ok) (hy : y.ok) (hw : w.ok) : FC Try.prog 160 [.agg [.int .u64 x.a, .int .u64 x.b, .int .u64 x.c, .int .u64 x.d], .agg [.int .u64 y.a, .int .u64 y.b, .int .u64 y.c, .int .u64 y.d], .agg [.int .u64 w.a, .int .u64 w.b, .int .u64 w.c, .int .u64 w.d]] (.tup [.agg [.int .u64 (mkP x.v y.v w.v).x.a, .int .u64 (mkP x.v y.v w.v).x.b, .int .u64 (mkP x.v y.v w.v).x.c, .int .u64 (mkP x.v y.v w.v).x.d, .int .u64 (mkP x.v y.v w.v).y.a, .int .u64 (mkP x.v y.v w.v).y.b, .int .u64 (mkP x.v y.v w.v).y.c, .int .u64 (mkP x.v y.v w.v).y.d, .int .u64 (mkP x.v y.v w.v).w.a, .int .u64 (mkP x.v y.v w.v).w.b, .int .u64 (mkP x.v y.v w.v).w.c, .int .u64 (mkP x.v y.v w.v).w.d], .bool (mkB x.v y.v w.v)]) := by
  have bX := W4.bg hx
  have bY := W4.bg hy
  have bW := W4.bg hw
  refine FC.body Try.func160 rfl (by simp [idfL, idf, idfLL_iff, idf_Wd', idf_numS, cells_numS, numS_fold, wdI]) (by simp [idfL, idf, idfLL_iff, idf_Wd', idf_numS, cells_numS, numS_fold, wdI]) 22 rfl fun nx K hK => ?_
  refine AWP.seqk fun K1 hK1 => ?_
  refine AWP.region (AOPS.all (by simp (disch := first|omega|(simp only[ln];omega)) [idf_Wd', idf_numS, cells_numS, numS_fold, wdI]; rfl) ?_)
  refine hK1 _ ?_
  refine AWP.seqk fun K2 hK2 => ?_
  refine AWP.seqk fun K3 hK3 => ?_
  by_cases hz : w.a = 0 ∧ w.b = 0 ∧ w.c = 0 ∧ w.d = 0
  · obtain ⟨wa, wb, wc, wd⟩ := w
    simp only [] at hz
    obtain ⟨rfl, rfl, rfl, rfl⟩ := hz
    have hv : W4.v ⟨0, 0, 0, 0⟩ = 0 := v_zero
    refine AWP.region (AOPS.all (by simp (disch := first|omega|(simp only[ln];omega)) [idf_Wd', idf_numS, cells_numS, numS_fold, wdI, eqW4]; rfl) ?_)
    refine hK3 _ ?_
    refine cond_ok _ (by simp (disch := first|omega|(simp only[ln];omega)); rfl) (fun h10 => ?_) (fun h10 => ?_)
    · try simp only [decide_eq_true_eq, decide_eq_false_iff_not] at h10
      refine AWP.seqk fun K4 hK4 => ?_
      refine AWP.region (AOPS.all (by simp (disch := first|omega|(simp only[ln];omega)) [idf_Wd', idf_numS, cells_numS, numS_fold, wdI]; rfl) ?_)
      refine hK4 _ ?_
      refine AWP.ret ?_
      exact hK _ _ _ _ trivial ((Fin.mk (by simp [aRes, aResL, aRes1, idf_Wd', idf_numS, cells_numS, numS_fold, wdI]; rfl)).cast (by rw [mkP, mkB, if_pos hv, if_pos hv]; rfl))
    · simp at h10
  · have hne : w.v ≠ 0 := W4.ne hw hz
    refine AWP.region (AOPS.all (by simp (disch := first|omega|(simp only[ln];omega)) [idf_Wd', idf_numS, cells_numS, numS_fold, wdI, eqW4]; rfl) ?_)
    refine hK3 _ ?_
    refine cond_ok _ (by simp (disch := first|omega|(simp only[ln];omega)); rfl) (fun h10 => ?_) (fun h10 => ?_)
    · exact absurd (by simpa [and_assoc] using h10) hz
    · try simp only [decide_eq_true_eq, decide_eq_false_iff_not] at h10
      have hgp := gcd3_pos (x := x.v) (y := y.v) hne
      refine AWP.skip ?_
      refine hK2 _ ?_
      refine AWP.seqk fun K5 hK5 => ?_
      refine AWP.draw 10 Try.checked.mixed (by kernel_rfl) (by simp) ?_
      simp only [List.take_succ_cons, List.take_zero, List.drop_succ_cons, List.drop_zero]
      refine DP.runFk 1 (by simp (disch := first|omega|(simp only[ln];omega)) [runDf.eq_def, runF1, runF2, stepF.eq_def, updo.eq_def, hupo.eq_def, opSto1.eq_def, List.take_succ_cons, List.take_zero, idf_Wd', idf_numS, cells_numS, numS_fold, wdI, W4.v]; rfl) fun fs6 hfs6 => ?_
      replace hfs6 : fs6.length = 1 := hfs6.trans rfl
      simp only [List.drop_succ_cons, List.drop_zero]
      refine DP.fcall (l1From_fc x.a x.b x.c x.d hx.1 hx.2.1 hx.2.2.1 hx.2.2.2) rfl rfl rfl hb170 (by simp (disch := first|omega|(simp only[ln];omega)) [idf_Wd', W4.v, idf_numS, cells_numS, numS_fold, wdI]) (by simp (disch := first|omega|(simp only[ln];omega)) [W4.v]) (by simp) ?_
      simp only [updo]
      refine DP.runFk 1 (by simp (disch := first|omega|(simp only[ln];omega)) [runDf.eq_def, runF1, runF2, stepF.eq_def, updo.eq_def, hupo.eq_def, opSto1.eq_def, List.take_succ_cons, List.take_zero, idf_Wd', idf_numS, cells_numS, numS_fold, wdI, W4.v]; rfl) fun fs7 hfs7 => ?_
      replace hfs7 : fs7.length = 1 := hfs7.trans rfl
      simp only [List.drop_succ_cons, List.drop_zero]
      refine DP.fcall (l1From_fc y.a y.b y.c y.d hy.1 hy.2.1 hy.2.2.1 hy.2.2.2) rfl rfl rfl hb170 (by simp (disch := first|omega|(simp only[ln];omega)) [idf_Wd', W4.v, idf_numS, cells_numS, numS_fold, wdI]) (by simp (disch := first|omega|(simp only[ln];omega)) [W4.v]) (by simp) ?_
      simp only [updo]
      refine DP.runFk 1 (by simp (disch := first|omega|(simp only[ln];omega)) [runDf.eq_def, runF1, runF2, stepF.eq_def, updo.eq_def, hupo.eq_def, opSto1.eq_def, List.take_succ_cons, List.take_zero, idf_Wd', idf_numS, cells_numS, numS_fold, wdI, W4.v]; rfl) fun fs8 hfs8 => ?_
      replace hfs8 : fs8.length = 1 := hfs8.trans rfl
      simp only [List.drop_succ_cons, List.drop_zero]
      refine DP.fcall (l1From_fc w.a w.b w.c w.d hw.1 hw.2.1 hw.2.2.1 hw.2.2.2) rfl rfl rfl hb170 (by simp (disch := first|omega|(simp only[ln];omega)) [idf_Wd', W4.v, idf_numS, cells_numS, numS_fold, wdI]) (by simp (disch := first|omega|(simp only[ln];omega)) [W4.v]) (by simp) ?_
      simp only [updo]
      refine DP.fcall (l3Make_fc x.v y.v w.v hne bX bY bW (by omega) (by omega)) rfl rfl rfl hb103 (by simp (disch := first|omega|(simp only[ln];omega)) [idf_Wd', W4.v, idf_numS, cells_numS, numS_fold, wdI]) (by simp (disch := first|omega|(simp only[ln];omega)) [W4.v]) (by simp) ?_
      simp only [updo]
      refine DP.fcall (l3Point_fc (nrm w.v x.v / gcd3 x.v y.v w.v) (nrm w.v y.v / gcd3 x.v y.v w.v) (nrm w.v w.v / gcd3 x.v y.v w.v) (bX.nrm.div hgp) (bY.nrm.div hgp) (bW.nrm.div hgp) (by omega)) rfl rfl rfl hb102 (by simp (disch := first|omega|(simp only[ln];omega)) [idf_Wd', W4.v, idf_numS, cells_numS, numS_fold, wdI]) (by simp (disch := first|omega|(simp only[ln];omega)) [W4.v]) (by simp) ?_
      simp only [updo]
      refine DP.runFk 2 (by simp (disch := first|omega|(simp only[ln];omega)) [runDf.eq_def, runF1, runF2, stepF.eq_def, updo.eq_def, hupo.eq_def, opSto1.eq_def, List.take_succ_cons, List.take_zero, idf_Wd', idf_numS, cells_numS, numS_fold, wdI, W4.v]; rfl) fun fs9 hfs9 => ?_
      replace hfs9 : fs9.length = 2 := hfs9.trans rfl
      simp only [List.drop_succ_cons, List.drop_zero]
      refine DQ.runF (m := 10) (by simp only [List.length_append, List.length_cons, List.length_nil, hfs6, hfs7, hfs8, hfs9]; omega) _ _ _ (by kernel_rfl) rfl (by simp (disch := first|omega|(simp only[ln];omega)) [runDf.eq_def, runF1, runF2, stepF.eq_def, updo.eq_def, hupo.eq_def, opSto1.eq_def, idf_Wd', idf_numS, cells_numS, numS_fold, wdI, W4.v]; rfl) ?_
      refine hK5 _ ?_
      refine AWP.ret ?_
      exact hK _ _ _ _ trivial ((Fin.mk (by simp [aRes, aResL, aRes1, idf_Wd', idf_numS, cells_numS, numS_fold, wdI]; rfl)).cast (by rw [mkP, mkB, if_neg hne, if_neg hne]; rfl))

set_option maxHeartbeats 2000000 in
theorem middleS_fc (p q : Pt) (hp : p.ok) (hq : q.ok) : FC Try.prog 30 [p.av, q.av] (.tup [.agg [.int .u64 (midP p q).x.a, .int .u64 (midP p q).x.b, .int .u64 (midP p q).x.c, .int .u64 (midP p q).x.d, .int .u64 (midP p q).y.a, .int .u64 (midP p q).y.b, .int .u64 (midP p q).y.c, .int .u64 (midP p q).y.d, .int .u64 (midP p q).w.a, .int .u64 (midP p q).w.b, .int .u64 (midP p q).w.c, .int .u64 (midP p q).w.d], .bool (midB p q)]) := by
  have pX := W4.bg hp.1
  have pY := W4.bg hp.2.1
  have pW := W4.bg hp.2.2
  have qX := W4.bg hq.1
  have qY := W4.bg hq.2.1
  have qW := W4.bg hq.2.2
  refine FC.body Try.func30 rfl (by simp [idfL, idf, Pt.av, Pt.cells]) (by simp [idfL, idf, idfLL_iff, idf_Wd', idf_numS, cells_numS, numS_fold, Pt.av, Pt.cells, l3A, l3C]) 54 rfl fun nx K hK => ?_
  refine AWP.seqk fun K1 hK1 => ?_
  refine AWP.region (AOPS.all (by simp (disch := first|omega|(simp only[ln];omega)) [idf_Wd', idf_numS, cells_numS, numS_fold, Pt.av, Pt.cells, l3A, l3C]; rfl) ?_)
  refine hK1 _ ?_
  refine AWP.seqk fun K2 hK2 => ?_
  refine AWP.seqk fun K3 hK3 => ?_
  cases hgp : p.good
  · refine AWP.region ?_
    refine AOPS.runk 1 (by simp (disch := first|omega|(simp only[ln];omega)) [List.take_succ_cons, List.take_zero, idf_Wd', idf_numS, cells_numS, numS_fold, Pt.av, Pt.cells, l3A, l3C, hgp]; rfl) ?_
    simp only [List.drop_succ_cons, List.drop_zero]
    refine AOPS.fcall (pointOkS_fc p hp) rfl rfl rfl hb81 (by simp (disch := first|omega|(simp only[ln];omega)) [idf_Wd', hgp, idf_numS, cells_numS, numS_fold, Pt.av, Pt.cells, l3A, l3C]) (by simp (disch := first|omega|(simp only[ln];omega)) [hgp]) (by simp) ?_
    simp only [puts_some, updo]
    refine AOPS.all (by simp (disch := first|omega|(simp only[ln];omega)) [idf_Wd', idf_numS, cells_numS, numS_fold, Pt.av, Pt.cells, l3A, l3C, hgp]; rfl) ?_
    refine hK3 _ ?_
    refine cond_ok _ (by simp (disch := first|omega|(simp only[ln];omega)); rfl) (fun h15 => ?_) (fun h15 => ?_)
    · try simp only [decide_eq_true_eq, decide_eq_false_iff_not] at h15
      refine AWP.seqk fun K4 hK4 => ?_
      refine AWP.region (AOPS.all (by simp (disch := first|omega|(simp only[ln];omega)) [idf_Wd', idf_numS, cells_numS, numS_fold, Pt.av, Pt.cells, l3A, l3C]; rfl) ?_)
      refine hK4 _ ?_
      refine AWP.ret ?_
      exact hK _ _ _ _ trivial ((Fin.mk (by simp [aRes, aResL, aRes1, idf_Wd', idf_numS, cells_numS, numS_fold, Pt.av, Pt.cells, l3A, l3C]; rfl)).cast (by simp [midP, midB, hgp, pt0]))
    · simp at h15
  · refine AWP.region ?_
    refine AOPS.runk 1 (by simp (disch := first|omega|(simp only[ln];omega)) [List.take_succ_cons, List.take_zero, idf_Wd', idf_numS, cells_numS, numS_fold, Pt.av, Pt.cells, l3A, l3C, hgp]; rfl) ?_
    simp only [List.drop_succ_cons, List.drop_zero]
    refine AOPS.fcall (pointOkS_fc p hp) rfl rfl rfl hb81 (by simp (disch := first|omega|(simp only[ln];omega)) [idf_Wd', hgp, idf_numS, cells_numS, numS_fold, Pt.av, Pt.cells, l3A, l3C]) (by simp (disch := first|omega|(simp only[ln];omega)) [hgp]) (by simp) ?_
    simp only [puts_some, updo]
    refine AOPS.runk 3 (by simp (disch := first|omega|(simp only[ln];omega)) [List.take_succ_cons, List.take_zero, idf_Wd', idf_numS, cells_numS, numS_fold, Pt.av, Pt.cells, l3A, l3C, hgp]; rfl) ?_
    simp only [List.drop_succ_cons, List.drop_zero]
    refine AOPS.fcall (pointOkS_fc q hq) rfl rfl rfl hb81 (by simp (disch := first|omega|(simp only[ln];omega)) [idf_Wd', hgp, idf_numS, cells_numS, numS_fold, Pt.av, Pt.cells, l3A, l3C]) (by simp (disch := first|omega|(simp only[ln];omega)) [hgp]) (by simp) ?_
    simp only [puts_some, updo]
    refine AOPS.all (by simp (disch := first|omega|(simp only[ln];omega)) [idf_Wd', idf_numS, cells_numS, numS_fold, Pt.av, Pt.cells, l3A, l3C, hgp]; rfl) ?_
    refine hK3 _ ?_
    refine cond_ok (!q.good) (by simp (disch := first|omega|(simp only[ln];omega))) (fun h15 => ?_) (fun h15 => ?_)
    · try simp only [decide_eq_true_eq, decide_eq_false_iff_not] at h15
      have hgq : q.good = false := by simpa using h15
      refine AWP.seqk fun K5 hK5 => ?_
      refine AWP.region (AOPS.all (by simp (disch := first|omega|(simp only[ln];omega)) [idf_Wd', idf_numS, cells_numS, numS_fold, Pt.av, Pt.cells, l3A, l3C]; rfl) ?_)
      refine hK5 _ ?_
      refine AWP.ret ?_
      exact hK _ _ _ _ trivial ((Fin.mk (by simp [aRes, aResL, aRes1, idf_Wd', idf_numS, cells_numS, numS_fold, Pt.av, Pt.cells, l3A, l3C]; rfl)).cast (by simp [midP, midB, hgp, hgq, pt0]))
    · try simp only [decide_eq_true_eq, decide_eq_false_iff_not] at h15
      have hgq : q.good = true := by simpa using h15
      have hne := midW_ne hgp hgq
      have b1 : Bg 10 (midX p q) := ((pX.mul qW).add (qX.mul pW)).le (by omega)
      have b2 : Bg 10 (midY p q) := ((pY.mul qW).add (qY.mul pW)).le (by omega)
      have b3 : Bg 10 (midW p q) := ((Bg.i64 (n := 2) (by omega) (by omega)).mul (pW.mul qW)).le (by omega)
      have hgg := gcd3_pos (x := midX p q) (y := midY p q) hne
      refine AWP.skip ?_
      refine hK2 _ ?_
      refine AWP.seqk fun K6 hK6 => ?_
      refine AWP.region ?_
      refine AOPS.runk 1 (by simp (disch := first|omega|(simp only[ln];omega)) [List.take_succ_cons, List.take_zero, idf_Wd', idf_numS, cells_numS, numS_fold, Pt.av, Pt.cells, l3A, l3C]; rfl) ?_
      simp only [List.drop_succ_cons, List.drop_zero]
      refine AOPS.fcall (l3Of_fc p hp) rfl rfl rfl hb83 (by simp (disch := first|omega|(simp only[ln];omega)) [idf_Wd', idf_numS, cells_numS, numS_fold, Pt.av, Pt.cells, l3A, l3C]) (by simp (disch := first|omega|(simp only[ln];omega))) (by simp) ?_
      simp only [puts_some, updo]
      refine AOPS.all (by simp (disch := first|omega|(simp only[ln];omega)) [idf_Wd', idf_numS, cells_numS, numS_fold, Pt.av, Pt.cells, l3A, l3C]; rfl) ?_
      refine hK6 _ ?_
      refine AWP.seqk fun K7 hK7 => ?_
      refine AWP.region ?_
      refine AOPS.runk 1 (by simp (disch := first|omega|(simp only[ln];omega)) [List.take_succ_cons, List.take_zero, idf_Wd', idf_numS, cells_numS, numS_fold, Pt.av, Pt.cells, l3A, l3C]; rfl) ?_
      simp only [List.drop_succ_cons, List.drop_zero]
      refine AOPS.fcall (l3Of_fc q hq) rfl rfl rfl hb83 (by simp (disch := first|omega|(simp only[ln];omega)) [idf_Wd', idf_numS, cells_numS, numS_fold, Pt.av, Pt.cells, l3A, l3C]) (by simp (disch := first|omega|(simp only[ln];omega))) (by simp) ?_
      simp only [puts_some, updo]
      refine AOPS.all (by simp (disch := first|omega|(simp only[ln];omega)) [idf_Wd', idf_numS, cells_numS, numS_fold, Pt.av, Pt.cells, l3A, l3C]; rfl) ?_
      refine hK7 _ ?_
      refine AWP.seqk fun K8 hK8 => ?_
      refine AWP.draw 33 Try.checked.mixed (by kernel_rfl) (by simp) ?_
      simp only [List.take_succ_cons, List.take_zero, List.drop_succ_cons, List.drop_zero]
      refine DP.runFk 4 (by simp (disch := first|omega|(simp only[ln];omega)) [runDf.eq_def, runF1, runF2, stepF.eq_def, updo.eq_def, hupo.eq_def, opSto1.eq_def, List.take_succ_cons, List.take_zero, idf_Wd', idf_numS, cells_numS, numS_fold, Pt.av, Pt.cells, l3A, l3C, midX, midY, midW]; rfl) fun fs9 hfs9 => ?_
      replace hfs9 : fs9.length = 4 := hfs9.trans rfl
      simp only [List.drop_succ_cons, List.drop_zero]
      refine DP.fcall (l1Mul_fc pX qW (by omega) (by omega)) rfl rfl rfl hb105 (by simp (disch := first|omega|(simp only[ln];omega)) [idf_Wd', midX, midY, midW, idf_numS, cells_numS, numS_fold, Pt.av, Pt.cells, l3A, l3C]) (by simp (disch := first|omega|(simp only[ln];omega)) [midX, midY, midW]) (by simp) ?_
      simp only [updo]
      refine DP.runFk 4 (by simp (disch := first|omega|(simp only[ln];omega)) [runDf.eq_def, runF1, runF2, stepF.eq_def, updo.eq_def, hupo.eq_def, opSto1.eq_def, List.take_succ_cons, List.take_zero, idf_Wd', idf_numS, cells_numS, numS_fold, Pt.av, Pt.cells, l3A, l3C, midX, midY, midW]; rfl) fun fs10 hfs10 => ?_
      replace hfs10 : fs10.length = 4 := hfs10.trans rfl
      simp only [List.drop_succ_cons, List.drop_zero]
      refine DP.fcall (l1Mul_fc qX pW (by omega) (by omega)) rfl rfl rfl hb105 (by simp (disch := first|omega|(simp only[ln];omega)) [idf_Wd', midX, midY, midW, idf_numS, cells_numS, numS_fold, Pt.av, Pt.cells, l3A, l3C]) (by simp (disch := first|omega|(simp only[ln];omega)) [midX, midY, midW]) (by simp) ?_
      simp only [updo]
      refine DP.fcall (l1Add_fc (pX.mul qW) (qX.mul pW) (by omega) (by omega)) rfl rfl rfl hb104 (by simp (disch := first|omega|(simp only[ln];omega)) [idf_Wd', midX, midY, midW, idf_numS, cells_numS, numS_fold, Pt.av, Pt.cells, l3A, l3C]) (by simp (disch := first|omega|(simp only[ln];omega)) [midX, midY, midW]) (by simp) ?_
      simp only [updo]
      refine DP.runFk 4 (by simp (disch := first|omega|(simp only[ln];omega)) [runDf.eq_def, runF1, runF2, stepF.eq_def, updo.eq_def, hupo.eq_def, opSto1.eq_def, List.take_succ_cons, List.take_zero, idf_Wd', idf_numS, cells_numS, numS_fold, Pt.av, Pt.cells, l3A, l3C, midX, midY, midW]; rfl) fun fs11 hfs11 => ?_
      replace hfs11 : fs11.length = 4 := hfs11.trans rfl
      simp only [List.drop_succ_cons, List.drop_zero]
      refine DP.fcall (l1Mul_fc pY qW (by omega) (by omega)) rfl rfl rfl hb105 (by simp (disch := first|omega|(simp only[ln];omega)) [idf_Wd', midX, midY, midW, idf_numS, cells_numS, numS_fold, Pt.av, Pt.cells, l3A, l3C]) (by simp (disch := first|omega|(simp only[ln];omega)) [midX, midY, midW]) (by simp) ?_
      simp only [updo]
      refine DP.runFk 4 (by simp (disch := first|omega|(simp only[ln];omega)) [runDf.eq_def, runF1, runF2, stepF.eq_def, updo.eq_def, hupo.eq_def, opSto1.eq_def, List.take_succ_cons, List.take_zero, idf_Wd', idf_numS, cells_numS, numS_fold, Pt.av, Pt.cells, l3A, l3C, midX, midY, midW]; rfl) fun fs12 hfs12 => ?_
      replace hfs12 : fs12.length = 4 := hfs12.trans rfl
      simp only [List.drop_succ_cons, List.drop_zero]
      refine DP.fcall (l1Mul_fc qY pW (by omega) (by omega)) rfl rfl rfl hb105 (by simp (disch := first|omega|(simp only[ln];omega)) [idf_Wd', midX, midY, midW, idf_numS, cells_numS, numS_fold, Pt.av, Pt.cells, l3A, l3C]) (by simp (disch := first|omega|(simp only[ln];omega)) [midX, midY, midW]) (by simp) ?_
      simp only [updo]
      refine DP.fcall (l1Add_fc (pY.mul qW) (qY.mul pW) (by omega) (by omega)) rfl rfl rfl hb104 (by simp (disch := first|omega|(simp only[ln];omega)) [idf_Wd', midX, midY, midW, idf_numS, cells_numS, numS_fold, Pt.av, Pt.cells, l3A, l3C]) (by simp (disch := first|omega|(simp only[ln];omega)) [midX, midY, midW]) (by simp) ?_
      simp only [updo]
      refine DP.fcall (l1Int_fc 2 (by omega) (by omega)) rfl rfl rfl hb106 (by simp (disch := first|omega|(simp only[ln];omega)) [idf_Wd', midX, midY, midW, idf_numS, cells_numS, numS_fold, Pt.av, Pt.cells, l3A, l3C]) (by simp (disch := first|omega|(simp only[ln];omega)) [midX, midY, midW]) (by simp) ?_
      simp only [updo]
      refine DP.runFk 4 (by simp (disch := first|omega|(simp only[ln];omega)) [runDf.eq_def, runF1, runF2, stepF.eq_def, updo.eq_def, hupo.eq_def, opSto1.eq_def, List.take_succ_cons, List.take_zero, idf_Wd', idf_numS, cells_numS, numS_fold, Pt.av, Pt.cells, l3A, l3C, midX, midY, midW]; rfl) fun fs13 hfs13 => ?_
      replace hfs13 : fs13.length = 4 := hfs13.trans rfl
      simp only [List.drop_succ_cons, List.drop_zero]
      refine DP.fcall (l1Mul_fc pW qW (by omega) (by omega)) rfl rfl rfl hb105 (by simp (disch := first|omega|(simp only[ln];omega)) [idf_Wd', midX, midY, midW, idf_numS, cells_numS, numS_fold, Pt.av, Pt.cells, l3A, l3C]) (by simp (disch := first|omega|(simp only[ln];omega)) [midX, midY, midW]) (by simp) ?_
      simp only [updo]
      refine DP.fcall (l1Mul_fc (Bg.i64 (n := 2) (by omega) (by omega)) (pW.mul qW) (by omega) (by omega)) rfl rfl rfl hb105 (by simp (disch := first|omega|(simp only[ln];omega)) [idf_Wd', midX, midY, midW, idf_numS, cells_numS, numS_fold, Pt.av, Pt.cells, l3A, l3C]) (by simp (disch := first|omega|(simp only[ln];omega)) [midX, midY, midW]) (by simp) ?_
      simp only [updo]
      refine DP.fcall (l3Make_fc (midX p q) (midY p q) (midW p q) hne b1 b2 b3 (by omega) (by omega)) rfl rfl rfl hb103 (by simp (disch := first|omega|(simp only[ln];omega)) [idf_Wd', midX, midY, midW, idf_numS, cells_numS, numS_fold, Pt.av, Pt.cells, l3A, l3C]) (by simp (disch := first|omega|(simp only[ln];omega)) [midX, midY, midW]) (by simp) ?_
      simp only [updo]
      refine DP.fcall (l3Point_fc (nrm (midW p q) (midX p q) / gcd3 (midX p q) (midY p q) (midW p q)) (nrm (midW p q) (midY p q) / gcd3 (midX p q) (midY p q) (midW p q)) (nrm (midW p q) (midW p q) / gcd3 (midX p q) (midY p q) (midW p q)) (b1.nrm.div hgg) (b2.nrm.div hgg) (b3.nrm.div hgg) (by omega)) rfl rfl rfl hb102 (by simp (disch := first|omega|(simp only[ln];omega)) [idf_Wd', midX, midY, midW, idf_numS, cells_numS, numS_fold, Pt.av, Pt.cells, l3A, l3C]) (by simp (disch := first|omega|(simp only[ln];omega)) [midX, midY, midW]) (by simp) ?_
      simp only [updo]
      refine DP.runFk 2 (by simp (disch := first|omega|(simp only[ln];omega)) [runDf.eq_def, runF1, runF2, stepF.eq_def, updo.eq_def, hupo.eq_def, opSto1.eq_def, List.take_succ_cons, List.take_zero, idf_Wd', idf_numS, cells_numS, numS_fold, Pt.av, Pt.cells, l3A, l3C, midX, midY, midW]; rfl) fun fs14 hfs14 => ?_
      replace hfs14 : fs14.length = 2 := hfs14.trans rfl
      simp only [List.drop_succ_cons, List.drop_zero]
      refine DQ.runF (m := 33) (by simp only [List.length_append, List.length_cons, List.length_nil, hfs9, hfs10, hfs11, hfs12, hfs13, hfs14]; omega) _ _ _ (by kernel_rfl) rfl (by simp (disch := first|omega|(simp only[ln];omega)) [runDf.eq_def, runF1, runF2, stepF.eq_def, updo.eq_def, hupo.eq_def, opSto1.eq_def, idf_Wd', idf_numS, cells_numS, numS_fold, Pt.av, Pt.cells, l3A, l3C, midX, midY, midW]; rfl) ?_
      refine hK8 _ ?_
      refine AWP.ret ?_
      exact hK _ _ _ _ trivial ((Fin.mk (by simp [aRes, aResL, aRes1, idf_Wd', idf_numS, cells_numS, numS_fold, Pt.av, Pt.cells, l3A, l3C]; rfl)).cast (by rw [midP, midB, hgp, hgq]; simp only [Bool.and_self, if_true, mkP, mkB, if_neg hne]; rfl))

end Go.Proofs.Ytmaebeknmiomnaa

/- Walks: drawn numbers. -/
namespace Go.Proofs.Ytmaebeknmiomnaa
open Go Go.RowKit
set_option linter.unusedSimpArgs false
set_option linter.unusedVariables false
set_option maxRecDepth 100000
attribute [local simp] List.getElem?_cons_zero List.getElem?_cons_succ List.getElem?_toArray runOps stepOp.eq_def agd.eq_def dstOk.eq_def opVal.eq_def opNew.eq_def opSto.eq_def ev.eq_def cv.eq_def puts_some puts_none upd_ap lst.eq_def aBin.eq_def aUn.eq_def aBi_str aBi_isl aBi_osl aBi_nsl aBi_max aBi_min aBi_max3 aConv.eq_def aLd.eq_def aLoad.eq_def aField.eq_def aFld.eq_def aIdx_isl aIdx_osl aSlc_isl aSlc_osl aSlc_str aSlc_nsl bnd.eq_def evs_nil evs_cons aBuild.eq_def aFill splice.eq_def cells_agg cells_int cells_bool cells_str cells_nil cells_nsl cells_isl cells_osl cells_ptr cells_ip cells_fn cells_Wd one_int one_bool one_str one_nil one_nsl one_isl one_osl one_ptr one_ip one_fn one_Wd aSets hupd_eq hupd_ne wrap_i64s wrap_u64s wrap_u32s wrap_u8s wd_getD wd_set wd_len wd_replicate wd_one wd_fold fz_osl hupd_same aSix.eq_def aEqS.eq_def aEqB_bool aEqB_nsl aEqB_nil
attribute [local simp] szT3 byT3 agT3 unT3 zoT3 szT5 byT5 agT5 unT5 zoT5 szT22 byT22 agT22 elT22 unT22 zoT22 szT24 byT24 agT24 unT24 zoT24 szT190 byT190 agT190 flT190 fdT190_0 fdT190_1 zoT190

set_option maxHeartbeats 1000000 in
theorem next_ac (l : List Int) (p id : Nat) (H : Heap) (nx : Nat) (dl : Dig 256 l) (hl : l.length ≤ 1048576) (hp : p ≤ l.length) (hH : H id = some (2, [[Wd .u8 l, .int .i64 (p : Int)]])) (hd : ∀ i q, H i = some q → i < nx) : ACall Try.prog 209 [.ptr id 0 0] H nx (fun r H' nx' => (∃ n : Int, r = .int .i64 n ∧ 0 ≤ n ∧ n ≤ 255) ∧ (∃ p' : Nat, p' ≤ l.length ∧ H' = hupd H id (some (2, [[Wd .u8 l, .int .i64 (p' : Int)]]))) ∧ nx ≤ nx') := by
  refine ACall.body Try.func209 rfl 32 rfl fun K hK => ?_
  refine AWP.seqk fun K1 hK1 => ?_
  refine AWP.region (AOPS.all (by simp (disch := first|omega|(simp only[ln];omega)) [idf_Wd']; rfl) ?_)
  refine hK1 _ ?_
  refine AWP.seqk fun K2 hK2 => ?_
  refine AWP.seqk fun K3 hK3 => ?_
  refine AWP.drawF 10 Try.checked.mixed (by kernel_rfl) (by simp (disch := first|omega|(simp only[ln];omega)) [runDf.eq_def, runF1, runF2, stepF.eq_def, updo.eq_def, hupo.eq_def, opSto1.eq_def, len_Wd (P := Try.prog) #[22] rfl elT22, idf_Wd', hH]; rfl) ?_
  refine hK3 _ ?_
  refine cond_ok _ (by simp (disch := first|omega|(simp only[ln];omega)); rfl) (fun h12 => ?_) (fun h12 => ?_)
  · try simp only [decide_eq_true_eq, decide_eq_false_iff_not] at h12
    refine AWP.seqk fun K4 hK4 => ?_
    refine AWP.region (AOPS.all (by simp (disch := first|omega|(simp only[ln];omega)) [idf_Wd']; rfl) ?_)
    refine hK4 _ ?_
    refine AWP.ret ?_
    exact hK _ _ _ _ _ trivial (Fin.mk (by simp (disch := first|omega|(simp only[ln];omega)) [aRes, aResL, aRes1, idf_Wd'])) (⟨⟨0, rfl, by omega, by omega⟩, ⟨p, hp, (hupd_id hH).symm⟩, by simp⟩)
  · try simp only [decide_eq_true_eq, decide_eq_false_iff_not] at h12
    have hlt : p < l.length := by omega
    have gl := dl.gt (by omega) p
    have ep : ((p : Int) + 1 - 1).toNat = p := by omega
    have ep2 : (p : Int) + 1 - 1 = p := by omega
    refine AWP.skip ?_
    refine hK2 _ ?_
    refine AWP.seqk fun K5 hK5 => ?_
    refine AWP.region (AOPS.all (by simp (disch := first|omega|(simp only[ln];omega)) [idf_Wd', hH]; rfl) ?_)
    refine hK5 _ ?_
    refine AWP.seqk fun K6 hK6 => ?_
    refine AWP.drawF 12 Try.checked.mixed (by kernel_rfl) (by simp (disch := first|omega|(simp only[ln];omega)) [runDf.eq_def, runF1, runF2, stepF.eq_def, updo.eq_def, hupo.eq_def, opSto1.eq_def, idx_WdD (P := Try.prog) elT22 szT5, if_pos, idf_Wd', hH, ep, ep2, ld_ip agT5]; rfl) ?_
    refine hK6 _ ?_
    refine AWP.ret ?_
    exact hK _ _ _ _ _ trivial (Fin.mk (by simp (disch := first|omega|(simp only[ln];omega)) [aRes, aResL, aRes1, idf_Wd'])) (⟨⟨gt l p, rfl, by omega, by omega⟩, ⟨p + 1, by omega, by simp⟩, by simp; omega⟩)

set_option maxHeartbeats 1000000 in
theorem below_ac (n : Int) (hn0 : 1 < n) (hn1 : n ≤ 65536) (l : List Int) (p id : Nat) (H : Heap) (nx : Nat) (dl : Dig 256 l) (hl : l.length ≤ 1048576) (hp : p ≤ l.length) (hH : H id = some (2, [[Wd .u8 l, .int .i64 (p : Int)]])) (hd : ∀ i q, H i = some q → i < nx) : ACall Try.prog 159 [.ptr id 0 0, .int .i64 n] H nx (fun r H' nx' => (∃ k : Int, r = .int .i64 k ∧ 0 ≤ k ∧ k < n) ∧ (∃ p' : Nat, p' ≤ l.length ∧ H' = hupd H id (some (2, [[Wd .u8 l, .int .i64 (p' : Int)]]))) ∧ nx ≤ nx') := by
  have hnz : n ≠ 0 := by omega
  have tm : ∀ a : Int, 0 ≤ a → a.tmod n = a % n := fun a h => Int.tmod_eq_emod_of_nonneg h
  have em0 : ∀ a : Int, 0 ≤ a % n := fun a => Int.emod_nonneg a hnz
  have em1 : ∀ a : Int, a % n < n := fun a => Int.emod_lt_of_pos a (by omega)
  refine ACall.body Try.func159 rfl 24 rfl fun K hK => ?_
  refine AWP.seqk fun K1 hK1 => ?_
  refine AWP.region (AOPS.all (by simp (disch := first|omega|(simp only[ln];omega)) [idf_Wd']; rfl) ?_)
  refine hK1 _ ?_
  refine AWP.seqk fun K2 hK2 => ?_
  refine AWP.seqk fun K3 hK3 => ?_
  refine AWP.region (AOPS.all (by simp (disch := first|omega|(simp only[ln];omega)) [idf_Wd']; rfl) ?_)
  refine hK3 _ ?_
  refine cond_ok _ (by simp (disch := first|omega|(simp only[ln];omega)); rfl) (fun h7 => ?_) (fun h7 => ?_)
  · simp at h7; omega
  · try simp only [decide_eq_true_eq, decide_eq_false_iff_not] at h7
    refine AWP.skip ?_
    refine hK2 _ ?_
    refine AWP.seqk fun K4 hK4 => ?_
    refine AWP.seqk fun K5 hK5 => ?_
    refine AWP.region (AOPS.all (by simp (disch := first|omega|(simp only[ln];omega)) [idf_Wd']; rfl) ?_)
    refine hK5 _ ?_
    refine cond_ok _ (by simp (disch := first|omega|(simp only[ln];omega)); rfl) (fun h9 => ?_) (fun h9 => ?_)
    · try simp only [decide_eq_true_eq, decide_eq_false_iff_not] at h9
      refine AWP.seqk fun K6 hK6 => ?_
      refine AWP.region ?_
      refine AOPS.runk 1 (by simp (disch := first|omega|(simp only[ln];omega)) [List.take_succ_cons, List.take_zero, idf_Wd', hnz]; rfl) ?_
      simp only [List.drop_succ_cons, List.drop_zero]
      refine AOPS.old fun hold1 => ?_
      refine AOPS.acall (next_ac l p id _ _ dl hl hp (by simp [hH]) hold1) rfl rfl rfl hb209 (by simp (disch := first|omega|(simp only[ln];omega)) [idf_Wd', hnz]) (by simp (disch := first|omega|(simp only[ln];omega)) [hnz]) (by simp) ?_
      rintro _ _ nx2 ⟨⟨m, rfl, m0, m1⟩, ⟨p2, hp2, rfl⟩, hnx2⟩
      try simp only [] at hnx2
      simp only [puts_some, updo]
      refine AOPS.all (by simp (disch := first|omega|(simp only[ln];omega)) [idf_Wd', hnz]; rfl) ?_
      refine hK6 _ ?_
      refine AWP.ret ?_
      exact hK _ _ _ _ _ trivial (Fin.mk (r := .int .i64 (m.tmod n)) (by simp [aRes, aResL, aRes1, idf_Wd'])) (⟨⟨_, rfl, by rw [tm m m0]; exact em0 _, by rw [tm m m0]; exact em1 _⟩, ⟨p2, hp2, by simp [hupd_same]⟩, by first | exact hnx2 | (simp at *; omega)⟩)
    · try simp only [decide_eq_true_eq, decide_eq_false_iff_not] at h9
      refine AWP.skip ?_
      refine hK4 _ ?_
      refine AWP.seqk fun K7 hK7 => ?_
      refine AWP.region ?_
      refine AOPS.runk 1 (by simp (disch := first|omega|(simp only[ln];omega)) [List.take_succ_cons, List.take_zero, idf_Wd']; rfl) ?_
      simp only [List.drop_succ_cons, List.drop_zero]
      refine AOPS.old fun hold1 => ?_
      refine AOPS.acall (next_ac l p id _ _ dl hl hp (by simp [hH]) hold1) rfl rfl rfl hb209 (by simp (disch := first|omega|(simp only[ln];omega)) [idf_Wd']) (by simp (disch := first|omega|(simp only[ln];omega))) (by simp) ?_
      rintro _ _ nx2 ⟨⟨m, rfl, m0, m1⟩, ⟨p2, hp2, rfl⟩, hnx2⟩
      try simp only [] at hnx2
      simp only [puts_some, updo]
      refine AOPS.all (by simp (disch := first|omega|(simp only[ln];omega)) [idf_Wd']; rfl) ?_
      refine hK7 _ ?_
      refine AWP.seqk fun K8 hK8 => ?_
      refine AWP.region ?_
      refine AOPS.runk 2 (by simp (disch := first|omega|(simp only[ln];omega)) [List.take_succ_cons, List.take_zero, idf_Wd']; rfl) ?_
      simp only [List.drop_succ_cons, List.drop_zero]
      refine AOPS.old fun hold2 => ?_
      refine AOPS.acall (next_ac l p2 id _ _ dl hl hp2 (by simp [hH]) hold2) rfl rfl rfl hb209 (by simp (disch := first|omega|(simp only[ln];omega)) [idf_Wd']) (by simp (disch := first|omega|(simp only[ln];omega))) (by simp) ?_
      rintro _ _ nx3 ⟨⟨m2, rfl, m20, m21⟩, ⟨p3, hp3, rfl⟩, hnx3⟩
      try simp only [] at hnx3
      simp only [puts_some, updo]
      refine AOPS.all (by simp (disch := first|omega|(simp only[ln];omega)) [idf_Wd']; rfl) ?_
      refine hK8 _ ?_
      refine AWP.seqk fun K9 hK9 => ?_
      refine AWP.region (AOPS.all (by simp (disch := first|omega|(simp only[ln];omega)) [idf_Wd', hnz]; rfl) ?_)
      refine hK9 _ ?_
      refine AWP.ret ?_
      exact hK _ _ _ _ _ trivial (Fin.mk (r := .int .i64 ((m * 256 + m2).tmod n)) (by simp [aRes, aResL, aRes1, idf_Wd'])) (⟨⟨_, rfl, by rw [tm _ (by omega)]; exact em0 _, by rw [tm _ (by omega)]; exact em1 _⟩, ⟨p3, hp3, by simp [hupd_same]⟩, by first | exact Nat.le_trans hnx2 hnx3 | (simp at *; omega)⟩)

set_option maxHeartbeats 1000000 in
theorem once_ac (n : Int) (hn0 : 1 < n) (hn1 : n ≤ 65536) (l : List Int) (p id : Nat) (H : Heap) (nx : Nat) (dl : Dig 256 l) (hl : l.length ≤ 1048576) (hp : p ≤ l.length) (hH : H id = some (2, [[Wd .u8 l, .int .i64 (p : Int)]])) (hd : ∀ i q, H i = some q → i < nx) : ACall Try.prog 78 [.ptr id 0 0, .int .i64 n] H nx (fun r H' nx' => (∃ b : Bool, r = .bool b) ∧ (∃ p' : Nat, p' ≤ l.length ∧ H' = hupd H id (some (2, [[Wd .u8 l, .int .i64 (p' : Int)]]))) ∧ nx ≤ nx') := by
  refine ACall.body Try.func78 rfl 11 rfl fun K hK => ?_
  refine AWP.seqk fun K1 hK1 => ?_
  refine AWP.region (AOPS.all (by simp (disch := first|omega|(simp only[ln];omega)) [idf_Wd']; rfl) ?_)
  refine hK1 _ ?_
  refine AWP.seqk fun K2 hK2 => ?_
  refine AWP.region ?_
  refine AOPS.runk 2 (by simp (disch := first|omega|(simp only[ln];omega)) [List.take_succ_cons, List.take_zero, idf_Wd']; rfl) ?_
  simp only [List.drop_succ_cons, List.drop_zero]
  refine AOPS.old fun hold2 => ?_
  refine AOPS.acall (below_ac n hn0 hn1 l p id _ _ dl hl hp (by simp [hH]) hold2) rfl rfl rfl hb159 (by simp (disch := first|omega|(simp only[ln];omega)) [idf_Wd']) (by simp (disch := first|omega|(simp only[ln];omega))) (by simp) ?_
  rintro _ _ nx2 ⟨⟨k, rfl, k0, k1⟩, ⟨p2, hp2, rfl⟩, hnx2⟩
  try simp only [] at hnx2
  simp only [puts_some, updo]
  refine AOPS.all (by simp (disch := first|omega|(simp only[ln];omega)) [idf_Wd']; rfl) ?_
  refine hK2 _ ?_
  refine AWP.ret ?_
  exact hK _ _ _ _ _ trivial (Fin.mk (r := .bool (k == n - 1)) (by simp [aRes, aResL, aRes1, idf_Wd'])) (⟨⟨_, rfl⟩, ⟨p2, hp2, by simp [hupd_same]⟩, by first | exact hnx2 | (simp at *; omega)⟩)

set_option maxHeartbeats 1000000 in
theorem word_ac (l : List Int) (p id : Nat) (H : Heap) (nx : Nat) (dl : Dig 256 l) (hl : l.length ≤ 1048576) (hp : p ≤ l.length) (hH : H id = some (2, [[Wd .u8 l, .int .i64 (p : Int)]])) (hd : ∀ i q, H i = some q → i < nx) : ACall Try.prog 163 [.ptr id 0 0] H nx (fun r H' nx' => (∃ n : Int, r = .int .u64 n ∧ U64 n) ∧ (∃ p' : Nat, p' ≤ l.length ∧ H' = hupd H id (some (2, [[Wd .u8 l, .int .i64 (p' : Int)]]))) ∧ nx ≤ nx') := by
  refine ACall.body Try.func163 rfl 16 rfl fun K hK => ?_
  refine AWP.seqk fun K1 hK1 => ?_
  refine AWP.region (AOPS.all (by simp (disch := first|omega|(simp only[ln];omega)) [idf_Wd']; rfl) ?_)
  refine hK1 _ ?_
  refine AWP.seqk fun K2 hK2 => ?_
  refine AWP.region (AOPS.all (by simp (disch := first|omega|(simp only[ln];omega)) [idf_Wd']; rfl) ?_)
  refine hK2 _ ?_
  refine AWP.seqk fun K3 hK3 => ?_
  refine AWP.seqk fun K4 hK4 => ?_
  refine AWP.region (AOPS.all (by simp (disch := first|omega|(simp only[ln];omega)) [idf_Wd']; rfl) ?_)
  refine hK4 _ ?_
  refine AWP.block ?_
  refine AWP.loop (fun N s => ∃ (i p' : Nat) (x : Int), N = 8 - i ∧ i ≤ 8 ∧ p' ≤ l.length ∧ U64 x ∧ s.env 0 = .ptr id 0 0 ∧ s.env 3 = .int .u64 x ∧ s.env 4 = .int .i64 (i : Int) ∧ s.heap = hupd H id (some (2, [[Wd .u8 l, .int .i64 (p' : Int)]])) ∧ nx ≤ s.nx ∧ s.nt = 16) (8) (⟨0, p, 0, by omega, by omega, hp, by unfold U64; omega, by simp, by simp, by simp, by simp [hupd_id hH], by simp, rfl⟩) ?_
  rintro N ⟨e, HH, mm, nt⟩ ⟨i, q, x, rfl, hi, hq, hx, h0, h3, h4, rfl, hm, rfl⟩
  simp only [] at h0 h3 h4 hm
  refine AWP.seqk fun K5 hK5 => ?_
  refine AWP.seqk fun K6 hK6 => ?_
  refine AWP.region (AOPS.all (by simp (disch := first|omega|(simp only[ln];omega)) [idf_Wd', h4]; rfl) ?_)
  refine hK6 _ ?_
  refine cond_ok _ (by simp (disch := first|omega|(simp only[ln];omega)); rfl) (fun h6 => ?_) (fun h6 => ?_)
  · try simp only [decide_eq_true_eq, decide_eq_false_iff_not] at h6
    have hi' : i < 8 := by omega
    refine AWP.skip ?_
    refine hK5 _ ?_
    refine AWP.seqk fun K7 hK7 => ?_
    refine AWP.block ?_
    refine AWP.region ?_
    refine AOPS.runk 3 (by simp (disch := first|omega|(simp only[ln];omega)) [List.take_succ_cons, List.take_zero, idf_Wd', h0, h3, IntKind.bits]; rfl) ?_
    simp only [List.drop_succ_cons, List.drop_zero]
    refine AOPS.old fun hold3 => ?_
    refine AOPS.acall (next_ac l q id _ _ dl hl hq (by simp) hold3) rfl rfl rfl hb209 (by simp (disch := first|omega|(simp only[ln];omega)) [idf_Wd', h0, h3, IntKind.bits]) (by simp (disch := first|omega|(simp only[ln];omega)) [h0, h3, IntKind.bits]) (by simp) ?_
    rintro _ _ nx2 ⟨⟨m, rfl, m0, m1⟩, ⟨p2, hp2, rfl⟩, hnx2⟩
    try simp only [] at hnx2
    have ox := or_u64 (wrap_U64 (x * 2 ^ 8)) (show U64 m by unfold U64; omega)
    try simp only [] at ox
    simp only [puts_some, updo]
    refine AOPS.all (by simp (disch := first|omega|(simp only[ln];omega)) [idf_Wd', h0, h3, IntKind.bits]; rfl) ?_
    refine hK7 _ ?_
    refine AWP.region (AOPS.all (by simp (disch := first|omega|(simp only[ln];omega)) [idf_Wd', h4]; rfl) ?_)
    refine ⟨8 - (i + 1), by omega, i + 1, p2, _, rfl, by omega, hp2, ox, by simp [h0], by simp [IntKind.bits], by simp (disch := omega) [h4], by simp [hupd_same], by simp at *; omega, rfl⟩
  · try simp only [decide_eq_true_eq, decide_eq_false_iff_not] at h6
    refine AWP.exit ?_
    refine hK3 _ ?_
    refine AWP.seqk fun K8 hK8 => ?_
    refine AWP.region (AOPS.all (by simp (disch := first|omega|(simp only[ln];omega)) [idf_Wd', h3]; rfl) ?_)
    refine hK8 _ ?_
    refine AWP.ret ?_
    exact hK _ _ _ _ _ trivial (Fin.mk (r := .int .u64 x) (by simp [aRes, aResL, aRes1, idf_Wd'])) (⟨⟨x, rfl, hx⟩, ⟨q, hq, rfl⟩, hm⟩)

end Go.Proofs.Ytmaebeknmiomnaa

/- Walks: drawn numbers near others; drawn spots. -/
namespace Go.Proofs.Ytmaebeknmiomnaa
open Go Go.RowKit
set_option linter.unusedSimpArgs false
set_option linter.unusedVariables false
set_option maxRecDepth 100000
attribute [local simp] List.getElem?_cons_zero List.getElem?_cons_succ List.getElem?_toArray runOps stepOp.eq_def agd.eq_def dstOk.eq_def opVal.eq_def opNew.eq_def opSto.eq_def ev.eq_def cv.eq_def puts_some puts_none upd_ap lst.eq_def aBin.eq_def aUn.eq_def aBi_str aBi_isl aBi_osl aBi_nsl aBi_max aBi_min aBi_max3 aConv.eq_def aLd.eq_def aLoad.eq_def aField.eq_def aFld.eq_def aIdx_isl aIdx_osl aSlc_isl aSlc_osl aSlc_str aSlc_nsl bnd.eq_def evs_nil evs_cons aBuild.eq_def aFill splice.eq_def cells_agg cells_int cells_bool cells_str cells_nil cells_nsl cells_isl cells_osl cells_ptr cells_ip cells_fn cells_Wd one_int one_bool one_str one_nil one_nsl one_isl one_osl one_ptr one_ip one_fn one_Wd aSets hupd_eq hupd_ne wrap_i64s wrap_u64s wrap_u32s wrap_u8s wd_getD wd_set wd_len wd_replicate wd_one wd_fold fz_osl hupd_same aSix.eq_def aEqS.eq_def aEqB_bool aEqB_nsl aEqB_nil
attribute [local simp] szT2 byT2 agT2 unT2 zoT2 szT3 byT3 agT3 unT3 zoT3 szT24 byT24 agT24 unT24 zoT24 szT67 byT67 agT67 flT67 fdT67_0 fdT67_1 zoT67

set_option maxHeartbeats 1000000 in
theorem near_ac (a b : Int) (ha : -1152921504606846976 ≤ a) (hab : a ≤ b) (hb : b ≤ 1152921504606846976) (l : List Int) (p id : Nat) (H : Heap) (nx : Nat) (dl : Dig 256 l) (hl : l.length ≤ 1048576) (hp : p ≤ l.length) (hH : H id = some (2, [[Wd .u8 l, .int .i64 (p : Int)]])) (hd : ∀ i q, H i = some q → i < nx) : ACall Try.prog 164 [.ptr id 0 0, .int .i64 a, .int .i64 b] H nx (fun r H' nx' => (∃ k : Int, r = .int .i64 k ∧ a ≤ k ∧ k ≤ b) ∧ (∃ p' : Nat, p' ≤ l.length ∧ H' = hupd H id (some (2, [[Wd .u8 l, .int .i64 (p' : Int)]]))) ∧ nx ≤ nx') := by
  have hid := hd id _ hH
  refine ACall.body Try.func164 rfl 31 rfl fun K hK => ?_
  refine AWP.seqk fun K1 hK1 => ?_
  refine AWP.region (AOPS.all (by simp (disch := first|omega|(simp only[ln];omega)) [idf_Wd']; rfl) ?_)
  refine hK1 _ ?_
  refine AWP.seqk fun K2 hK2 => ?_
  refine AWP.seqk fun K3 hK3 => ?_
  refine AWP.region ?_
  refine AOPS.runk 1 (by simp (disch := first|omega|(simp only[ln];omega)) [List.take_succ_cons, List.take_zero, idf_Wd']; rfl) ?_
  simp only [List.drop_succ_cons, List.drop_zero]
  refine AOPS.old fun hold1 => ?_
  refine AOPS.acall (below_ac 8 (by omega) (by omega) l p id _ _ dl hl hp (by simp [hH]) hold1) rfl rfl rfl hb159 (by simp (disch := first|omega|(simp only[ln];omega)) [idf_Wd']) (by simp (disch := first|omega|(simp only[ln];omega))) (by simp) ?_
  rintro _ _ nx2 ⟨⟨k, rfl, k0, k1⟩, ⟨p2, hp2, rfl⟩, hnx2⟩
  try simp only [] at hnx2
  simp only [puts_some, updo]
  refine AOPS.nil ?_
  refine hK3 _ ?_
  refine AWP.block ?_
  refine AWP.seqk fun K4 hK4 => ?_
  refine AWP.region (AOPS.all (by simp (disch := first|omega|(simp only[ln];omega)) [idf_Wd']; rfl) ?_)
  refine hK4 _ ?_
  refine cond_ok _ (by simp (disch := first|omega|(simp only[ln];omega)); rfl) (fun h9 => ?_) (fun h9 => ?_)
  · try simp only [decide_eq_true_eq, decide_eq_false_iff_not] at h9
    refine AWP.seqk fun K5 hK5 => ?_
    refine AWP.region (AOPS.all (by simp (disch := first|omega|(simp only[ln];omega)) [idf_Wd']; rfl) ?_)
    refine hK5 _ ?_
    refine AWP.ret ?_
    exact hK _ _ _ _ _ trivial (Fin.mk (r := .int .i64 a) (by simp [aRes, aResL, aRes1, idf_Wd'])) (⟨⟨_, rfl, by omega, by omega⟩, ⟨p2, hp2, by simp [hupd_same]⟩, by first | exact hnx2 | (simp at *; omega)⟩)
  · try simp only [decide_eq_true_eq, decide_eq_false_iff_not] at h9
    refine AWP.seqk fun K6 hK6 => ?_
    refine AWP.region (AOPS.all (by simp (disch := first|omega|(simp only[ln];omega)) [idf_Wd']; rfl) ?_)
    refine hK6 _ ?_
    refine cond_ok _ (by simp (disch := first|omega|(simp only[ln];omega)); rfl) (fun h12 => ?_) (fun h12 => ?_)
    · try simp only [decide_eq_true_eq, decide_eq_false_iff_not] at h12
      refine AWP.seqk fun K7 hK7 => ?_
      refine AWP.region (AOPS.all (by simp (disch := first|omega|(simp only[ln];omega)) [idf_Wd']; rfl) ?_)
      refine hK7 _ ?_
      refine AWP.ret ?_
      exact hK _ _ _ _ _ trivial (Fin.mk (r := .int .i64 b) (by simp [aRes, aResL, aRes1, idf_Wd'])) (⟨⟨_, rfl, by omega, by omega⟩, ⟨p2, hp2, by simp [hupd_same]⟩, by first | exact hnx2 | (simp at *; omega)⟩)
    · try simp only [decide_eq_true_eq, decide_eq_false_iff_not] at h12
      refine AWP.skip ?_
      refine hK2 _ ?_
      refine AWP.seqk fun K8 hK8 => ?_
      refine AWP.seqk fun K9 hK9 => ?_
      refine AWP.region (AOPS.all (by simp (disch := first|omega|(simp only[ln];omega)) [idf_Wd']; rfl) ?_)
      refine hK9 _ ?_
      refine cond_ok _ (by simp (disch := first|omega|(simp only[ln];omega)); rfl) (fun h17 => ?_) (fun h17 => ?_)
      · simp at h17; omega
      · try simp only [decide_eq_true_eq, decide_eq_false_iff_not] at h17
        refine AWP.skip ?_
        refine hK8 _ ?_
        refine AWP.seqk fun K10 hK10 => ?_
        have hdz : b - a + 1 ≠ 0 := by omega
        have cw : IntKind.u64.wrap (b - a + 1) = b - a + 1 := wrap_u64s (by omega) (by omega)
        have tmw : ∀ w : Int, 0 ≤ w → (w / 2).tmod (b - a + 1) = w / 2 % (b - a + 1) := fun w h => Int.tmod_eq_emod_of_nonneg (by omega)
        have sw : ∀ w : Int, 0 ≤ w → IntKind.i64.wrap (w / 2 % (b - a + 1)) = w / 2 % (b - a + 1) := fun w h => by
          have e0 := Int.emod_nonneg (w / 2) hdz
          have e1 := Int.emod_lt_of_pos (w / 2) (show 0 < b - a + 1 by omega)
          exact wrap_i64s (by omega) (by omega)
        refine AWP.region ?_
        refine AOPS.runk 2 (by simp (disch := first|omega|(simp only[ln];omega)) [List.take_succ_cons, List.take_zero, idf_Wd', IntKind.bits, Int.fdiv_eq_ediv_of_nonneg, hdz, tmw, cw, sw]; rfl) ?_
        simp only [List.drop_succ_cons, List.drop_zero]
        refine AOPS.old fun hold2 => ?_
        refine AOPS.acall (word_ac l p2 id _ _ dl hl hp2 (by simp) hold2) rfl rfl rfl hb163 (by simp (disch := first|omega|(simp only[ln];omega)) [idf_Wd', IntKind.bits, Int.fdiv_eq_ediv_of_nonneg, hdz, tmw, cw, sw]) (by simp (disch := first|omega|(simp only[ln];omega)) [IntKind.bits, Int.fdiv_eq_ediv_of_nonneg, hdz, tmw, cw, sw]) (by simp) ?_
        rintro _ _ nx3 ⟨⟨w, rfl, hw0, hw1⟩, ⟨p3, hp3, rfl⟩, hnx3⟩
        have e0 := Int.emod_nonneg (w / 2) hdz
        have e1 := Int.emod_lt_of_pos (w / 2) (show 0 < b - a + 1 by omega)
        try simp only [] at hnx3
        simp only [puts_some, updo]
        refine AOPS.all (by simp (disch := first|omega|(simp only[ln];omega)) [idf_Wd', IntKind.bits, Int.fdiv_eq_ediv_of_nonneg, hdz, tmw, cw, sw]; rfl) ?_
        refine hK10 _ ?_
        refine AWP.ret ?_
        exact hK _ _ _ _ _ trivial (Fin.mk (r := .int .i64 (a + w / 2 % (b - a + 1))) (by simp [aRes, aResL, aRes1, idf_Wd'])) (⟨⟨_, rfl, by omega, by omega⟩, ⟨p3, hp3, by simp [hupd_same]⟩, by first | exact Nat.le_trans hnx2 hnx3 | (simp at *; omega)⟩)

set_option maxHeartbeats 1000000 in
theorem spot_ac (l : List Int) (p id : Nat) (H : Heap) (nx : Nat) (dl : Dig 256 l) (hl : l.length ≤ 1048576) (hp : p ≤ l.length) (hH : H id = some (2, [[Wd .u8 l, .int .i64 (p : Int)]])) (hd : ∀ i q, H i = some q → i < nx) : ACall Try.prog 130 [.ptr id 0 0] H nx (fun r H' nx' => (∃ x y : Int, r = .agg [.int .i64 x, .int .i64 y] ∧ -6 ≤ x ∧ x ≤ 6 ∧ -6 ≤ y ∧ y ≤ 6) ∧ (∃ p' : Nat, p' ≤ l.length ∧ H' = hupd H id (some (2, [[Wd .u8 l, .int .i64 (p' : Int)]]))) ∧ nx ≤ nx') := by
  have hid := hd id _ hH
  refine ACall.body Try.func130 rfl 8 rfl fun K hK => ?_
  refine AWP.seqk fun K1 hK1 => ?_
  refine AWP.region (AOPS.all (by simp (disch := first|omega|(simp only[ln];omega)) [idf_Wd']; rfl) ?_)
  refine hK1 _ ?_
  refine AWP.seqk fun K2 hK2 => ?_
  refine AWP.region ?_
  refine AOPS.runk 1 (by simp (disch := first|omega|(simp only[ln];omega)) [List.take_succ_cons, List.take_zero, idf_Wd', hH]; rfl) ?_
  simp only [List.drop_succ_cons, List.drop_zero]
  refine AOPS.old fun hold1 => ?_
  refine AOPS.acall (near_ac (-6) (6) (by omega) (by omega) (by omega) l p id _ _ dl hl hp (by simp (disch := omega) [hH]) hold1) rfl rfl rfl hb164 (by simp (disch := first|omega|(simp only[ln];omega)) [idf_Wd', hH]) (by simp (disch := first|omega|(simp only[ln];omega)) [hH]) (by simp) ?_
  rintro _ _ nx2 ⟨⟨x, rfl, x0, x1⟩, ⟨p2, hp2, rfl⟩, hnx2⟩
  try simp only [] at hnx2
  simp only [puts_some, updo]
  refine AOPS.runk 1 (by simp (disch := first|omega|(simp only[ln];omega)) [List.take_succ_cons, List.take_zero, idf_Wd', hH]; rfl) ?_
  simp only [List.drop_succ_cons, List.drop_zero]
  refine AOPS.old fun hold3 => ?_
  refine AOPS.acall (near_ac (-6) (6) (by omega) (by omega) (by omega) l p2 id _ _ dl hl hp2 (by simp (disch := omega) [hH]) hold3) rfl rfl rfl hb164 (by simp (disch := first|omega|(simp only[ln];omega)) [idf_Wd', hH]) (by simp (disch := first|omega|(simp only[ln];omega)) [hH]) (by simp) ?_
  rintro _ _ nx3 ⟨⟨y, rfl, y0, y1⟩, ⟨p3, hp3, rfl⟩, hnx3⟩
  try simp only [] at hnx3
  simp only [puts_some, updo]
  refine AOPS.all (by simp (disch := first|omega|(simp only[ln];omega)) [idf_Wd', hH]; rfl) ?_
  refine hK2 _ ?_
  refine AWP.ret ?_
  exact hK _ _ _ _ _ trivial ((Fin.mk (r := .agg [.int .i64 x, .int .i64 y]) (by simp (disch := omega) [aRes, aResL, aRes1, idf_Wd'])).restr (fun i => decide (i < nx))) (⟨⟨x, y, rfl, x0, x1, y0, y1⟩, ⟨p3, hp3, by simp (disch := first | omega | (simp; done) | (simp; omega)) [hrestr_in, hrestr_out, hrestr_all hd, hupd_same]⟩, by first | omega | (simp at *; omega)⟩)

end Go.Proofs.Ytmaebeknmiomnaa
