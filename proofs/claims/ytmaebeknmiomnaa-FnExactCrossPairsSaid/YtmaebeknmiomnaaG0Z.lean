/- Walks: the division of words. -/
import Derived.Test.YtmaebeknmiomnaaG0Y

namespace Go.Proofs.Ytmaebeknmiomnaa
open Go Go.RowKit
set_option linter.unusedSimpArgs false
set_option linter.unusedVariables false
set_option maxRecDepth 100000
attribute [local simp] List.getElem?_cons_zero List.getElem?_cons_succ List.getElem?_toArray runOps stepOp.eq_def agd.eq_def dstOk.eq_def opVal.eq_def opNew.eq_def opSto.eq_def ev.eq_def cv.eq_def puts_some puts_none upd_ap lst.eq_def aBin.eq_def aUn.eq_def aBi_str aBi_isl aBi_osl aBi_nsl aBi_max aBi_min aBi_max3 aConv.eq_def aLd.eq_def aLoad.eq_def aField.eq_def aFld.eq_def aIdx_isl aIdx_osl aSlc_isl aSlc_osl aSlc_str aSlc_nsl bnd.eq_def evs_nil evs_cons aBuild.eq_def aFill splice.eq_def cells_agg cells_int cells_bool cells_str cells_nil cells_nsl cells_isl cells_osl cells_ptr cells_ip cells_fn cells_Wd one_int one_bool one_str one_nil one_nsl one_isl one_osl one_ptr one_ip one_fn one_Wd aSets hupd_eq hupd_ne wrap_i64s wrap_u64s wrap_u32s wrap_u8s wd_getD wd_set wd_len wd_replicate wd_one wd_fold fz_osl hupd_same aSix.eq_def aEqS.eq_def aEqB_bool aEqB_nsl aEqB_nil
attribute [local simp] szT3 byT3 agT3 unT3 zoT3 szT24 byT24 agT24 unT24 zoT24 szT117 byT117 agT117 elT117 unT117 zoT117

set_option maxHeartbeats 8000000 in
theorem divWords_fc (a d : Nat) (hd : d ≠ 0) (la : (mag (a : Int)).length ≤ 68719476736) (lb : (mag (d : Int)).length ≤ 68719476736) : FC Try.prog 172 [Wd .u64 (mag (a : Int)), Wd .u64 (mag (d : Int))] (.tup [Wd .u64 (mag ((a / d : Nat) : Int)), Wd .u64 (mag ((a % d : Nat) : Int))]) := by
  have da := mag_dig (a : Int)
  have dd := mag_dig (d : Int)
  have hcm := cmpI_mag (a : Int) (d : Int)
  rw [Int.natAbs_natCast, Int.natAbs_natCast] at hcm
  refine FC.body Try.func172 rfl (by simp [idfL, idf, idfLL_iff, idf_Wd']) (by simp [idfL, idf, idfLL_iff, idf_Wd']) 326 rfl fun nx K hK => ?_
  refine AWP.seqk fun K1 hK1 => ?_
  refine AWP.region (AOPS.all (by simp (disch := first|omega|(simp only[ln];omega)) [idf_Wd']; rfl) ?_)
  refine hK1 _ ?_
  refine AWP.seqk fun K2 hK2 => ?_
  refine AWP.seqk fun K3 hK3 => ?_
  refine AWP.region ?_
  refine AOPS.runk 2 (by simp (disch := first|omega|(simp only[ln];omega)) [List.take_succ_cons, List.take_zero, idf_Wd']; rfl) ?_
  simp only [List.drop_succ_cons, List.drop_zero]
  refine AOPS.fcall (cmpWords_fc (mag (a : Int)) (mag (d : Int)) (by omega) (by omega)) rfl rfl rfl hb190 (by simp (disch := first|omega|(simp only[ln];omega)) [idf_Wd']) (by simp (disch := first|omega|(simp only[ln];omega))) (by simp) ?_
  simp only [puts_some, updo]
  refine AOPS.all (by simp (disch := first|omega|(simp only[ln];omega)) [idf_Wd']; rfl) ?_
  refine hK3 _ ?_
  refine cond_ok _ (by simp (disch := first|omega|(simp only[ln];omega)); rfl) (fun h34 => ?_) (fun h34 => ?_)
  · try simp only [decide_eq_true_eq, decide_eq_false_iff_not] at h34
    have hlt : a < d := hcm.1.1 (by omega)
    refine AWP.seqk fun K4 hK4 => ?_
    refine AWP.region (AOPS.all (by simp (disch := first|omega|(simp only[ln];omega)) [idf_Wd']; rfl) ?_)
    refine hK4 _ ?_
    refine AWP.ret ?_
    exact hK _ _ _ _ trivial (((Fin.mk (r := .tup [.nsl, Wd .u64 (mag (a : Int))]) (by simp [aRes, aResL, aRes1, idf_Wd'])).weak (r' := .tup [Wd .u64 [], Wd .u64 (mag (a : Int))]) (fun _ _ _ _ h => by
      obtain ⟨vs, rfl, u, r, e, h1, h2⟩ := h
      exact ⟨vs, rfl, u, r, e, nsl_Wd .u64 h1, h2⟩)).cast (by rw [Nat.div_eq_of_lt hlt, Nat.mod_eq_of_lt hlt, show ((0 : Nat) : Int) = 0 from rfl, mag_zero]))
  · try simp only [decide_eq_true_eq, decide_eq_false_iff_not] at h34
    have had : d ≤ a := by
      rcases Nat.lt_or_ge a d with h | h
      · have := hcm.1.2 h; omega
      · exact h
    have hlen : (mag (d : Int)).length ≤ (mag (a : Int)).length := mag_len_mono (by simpa using had)
    have hdl : (mag (d : Int)).length ≠ 0 := by rw [Ne, mag_len0]; omega
    refine AWP.skip ?_
    refine hK2 _ ?_
    refine AWP.seqk fun K5 hK5 => ?_
    refine AWP.region (AOPS.all (by simp (disch := first|omega|(simp only[ln];omega)) [len_Wd (P := Try.prog) #[117] rfl elT117, idf_Wd']; rfl) ?_)
    refine hK5 _ ?_
    refine AWP.seqk fun K6 hK6 => ?_
    refine AWP.seqk fun K7 hK7 => ?_
    refine AWP.region (AOPS.all (by simp (disch := first|omega|(simp only[ln];omega)) [idf_Wd']; rfl) ?_)
    refine hK7 _ ?_
    refine cond_ok _ (by simp (disch := first|omega|(simp only[ln];omega)); rfl) (fun h39 => ?_) (fun h39 => ?_)
    · try simp only [decide_eq_true_eq, decide_eq_false_iff_not] at h39
      have h1l : (mag (d : Int)).length = 1 := by simp at h39; omega
      have hy := mag_one h1l
      have hyg := dd.gt (by omega) 0
      rw [hy] at hyg
      refine AWP.seqk fun K8 hK8 => ?_
      refine AWP.region (AOPS.all (by simp (disch := first|omega|(simp only[ln];omega)) [if_pos, len_Wd (P := Try.prog) #[117] rfl elT117, idf_Wd']; rfl) ?_)
      refine hK8 _ ?_
      refine AWP.seqk fun K9 hK9 => ?_
      refine AWP.seqk fun K10 hK10 => ?_
      refine AWP.region (AOPS.all (by simp (disch := first|omega|(simp only[ln];omega)) [len_Wd (P := Try.prog) #[117] rfl elT117, idf_Wd']; rfl) ?_)
      refine hK10 _ ?_
      refine AWP.block ?_
      refine AWP.loop (fun n s => ∃ (i : Nat) (out : List Int) (r : Int), n = i ∧ i ≤ (mag (a : Int)).length ∧ out.length = (mag (a : Int)).length ∧ Dig 18446744073709551616 out ∧ 0 ≤ r ∧ r < d ∧ val 18446744073709551616 ((mag (a : Int)).drop i) = d * val 18446744073709551616 (out.drop i) + r ∧ s.env 0 = Wd .u64 (mag (a : Int)) ∧ s.env 1 = Wd .u64 (mag (d : Int)) ∧ s.env 7 = .osl nx 0 (mag (a : Int)).length ∧ s.env 8 = .int .u64 r ∧ s.env 9 = .int .i64 ((i : Int) - 1) ∧ s.heap nx = some (1, wd .u64 out) ∧ s.nt = 326) ((mag (a : Int)).length) (⟨(mag (a : Int)).length, List.replicate (mag (a : Int)).length 0, 0, rfl, by omega, by simp, Dig.replicate _ (by omega) (by omega), by omega, by omega, by rw [List.drop_of_length_le (by omega), List.drop_of_length_le (by simp)]; simp [val], by simp, by simp, by simp, by simp, by simp, by simp, rfl⟩) ?_
      rintro n ⟨e, H, m, nt⟩ ⟨i, out, r, rfl, hi, ho, dO, hr0, hr, hv, g0, g1, g7, g8, g9, hH, rfl⟩
      simp only [] at g0 g1 g7 g8 g9 hH
      refine AWP.seqk fun K11 hK11 => ?_
      refine AWP.seqk fun K12 hK12 => ?_
      refine AWP.region (AOPS.all (by simp (disch := first|omega|(simp only[ln];omega)) [idf_Wd', g9]; rfl) ?_)
      refine hK12 _ ?_
      refine cond_ok _ (by simp (disch := first|omega|(simp only[ln];omega)); rfl) (fun h47 => ?_) (fun h47 => ?_)
      · try simp only [decide_eq_true_eq, decide_eq_false_iff_not] at h47
        obtain ⟨i, rfl⟩ : ∃ k, n = k + 1 := ⟨n - 1, by omega⟩
        have e9 : ((i + 1 : Nat) : Int) - 1 = i := by omega
        rw [e9] at g9
        have ga := da.gt (by omega) i
        have st := div1_step da dO (by omega) hr0 hr hv
        refine AWP.skip ?_
        refine hK11 _ ?_
        refine AWP.seqk fun K13 hK13 => ?_
        refine AWP.block ?_
        refine AWP.old fun hold => ?_
        refine AWP.draw 15 Try.checked.mixed (by kernel_rfl) (by simp) ?_
        simp only [List.take_succ_cons, List.take_zero, List.drop_succ_cons, List.drop_zero]
        refine DP.runFk 10 (by simp (disch := first|omega|(simp only[ln];omega)) [runDf.eq_def, runF1, runF2, stepF.eq_def, updo.eq_def, hupo.eq_def, opSto1.eq_def, List.take_succ_cons, List.take_zero, idx_WdD (P := Try.prog) elT117 szT24, if_pos, idf_Wd', g0, g1, g7, g8, g9, hH, ho, hy, h1l, ld_ip agT24]; rfl) fun fs14 hfs14 => ?_
        replace hfs14 : fs14.length = 10 := hfs14.trans rfl
        simp only [List.drop_succ_cons, List.drop_zero]
        refine DP.fcall (div64_fc (hi := r) (lo := gt (mag (a : Int)) i) (y0 := d) hr0 hr ga.1 ga.2 (by omega)) rfl rfl rfl hb214 (by simp (disch := first|omega|(simp only[ln];omega)) [idf_Wd', g0, g1, g7, g8, g9, hH, ho, hy, h1l, ld_ip agT24]) (by simp (disch := first|omega|(simp only[ln];omega)) [g0, g1, g7, g8, g9, hH, ho, hy, h1l, ld_ip agT24]) (by simp) ?_
        simp only [updo]
        refine DP.runFk 2 (by simp (disch := first|omega|(simp only[ln];omega)) [runDf.eq_def, runF1, runF2, stepF.eq_def, updo.eq_def, hupo.eq_def, opSto1.eq_def, List.take_succ_cons, List.take_zero, idx_WdD (P := Try.prog) elT117 szT24, if_pos, idf_Wd', g0, g1, g7, g8, g9, hH, ho, hy, h1l, ld_ip agT24]; rfl) fun fs15 hfs15 => ?_
        replace hfs15 : fs15.length = 2 := hfs15.trans rfl
        simp only [List.drop_succ_cons, List.drop_zero]
        refine DP.runF1q (by simp (disch := first|omega|(simp only[ln];omega)) [runDf.eq_def, runF1, runF2, stepF.eq_def, updo.eq_def, hupo.eq_def, opSto1.eq_def, idx_WdD (P := Try.prog) elT117 szT24, if_pos, idf_Wd', g0, g1, g7, g8, g9, hH, ho, hy, h1l, ld_ip agT24]; rfl) fun fq16 hfq16 => ?_
        replace hfq16 : fq16.q = [] := by rw [hfq16]; simp [qids, asksB, Op.operands, topId]
        simp only [updo]
        refine DP.runFk 1 (by simp (disch := first|omega|(simp only[ln];omega)) [runDf.eq_def, runF1, runF2, stepF.eq_def, updo.eq_def, hupo.eq_def, opSto1.eq_def, List.take_succ_cons, List.take_zero, idx_WdD (P := Try.prog) elT117 szT24, if_pos, idf_Wd', g0, g1, g7, g8, g9, hH, ho, hy, h1l, ld_ip agT24]; rfl) fun fs17 hfs17 => ?_
        replace hfs17 : fs17.length = 1 := hfs17.trans rfl
        simp only [List.drop_succ_cons, List.drop_zero]
        refine DQ.runG (m := 15) [13] (by simp only [List.length_append, List.length_cons, List.length_nil, hfs14, hfs15, hfs17]; omega) (by intro k f hk hex; simp only [List.mem_cons, List.not_mem_nil, or_false] at hex; rcases hex with rfl <;> (simp [List.getElem?_append, hfs14, hfs15, hfs17] at hk; subst hk; assumption)) _ _ _ (fun id q h j hj => by have := hold id q h; simp at hj; omega) (by kernel_rfl) rfl (by simp (disch := first|omega|(simp only[ln];omega)) [runDf.eq_def, runF1, runF2, stepF.eq_def, updo.eq_def, hupo.eq_def, opSto1.eq_def, idx_WdD (P := Try.prog) elT117 szT24, if_pos, idf_Wd', g0, g1, g7, g8, g9, hH, ho, hy, h1l, ld_ip agT24]; rfl) ?_
        refine hK13 _ ?_
        refine AWP.region (AOPS.all (by simp (disch := first|omega|(simp only[ln];omega)) [idf_Wd', g9]; rfl) ?_)
        refine ⟨i, by omega, i, out.set i ((r * 18446744073709551616 + gt (mag (a : Int)) i) / d), (r * 18446744073709551616 + gt (mag (a : Int)) i) % d, rfl, by omega, by simp [ho], dO.set _ st.1 st.2.1, st.2.2.1, st.2.2.2.1, st.2.2.2.2, by simp [g0], by simp [g1], by simp [g7], by simp, by simp [g9], by simp, rfl⟩
      · try simp only [decide_eq_true_eq, decide_eq_false_iff_not] at h47
        obtain rfl : n = 0 := by omega
        obtain ⟨f1, f2⟩ := div1_fin hr0 hr hv
        have hr1 : Dig 18446744073709551616 [r] := Dig.cons hr0 (by omega) (Dig.nil _)
        have t1 : trimW out = mag ((a / d : Nat) : Int) := by rw [mag_of dO, f1]
        have t2 : trimW [r] = mag ((a % d : Nat) : Int) := by rw [mag_of hr1]; simp only [val, Int.mul_zero, Int.add_zero]; rw [f2]
        refine AWP.exit ?_
        refine hK9 _ ?_
        refine AWP.seqk fun K18 hK18 => ?_
        refine AWP.region ?_
        refine AOPS.runk 1 (by simp (disch := first|omega|(simp only[ln];omega)) [List.take_succ_cons, List.take_zero, idf_Wd', g7, g8]; rfl) ?_
        simp only [List.drop_succ_cons, List.drop_zero]
        refine AOPS.frz1 65 nx 1 (wd .u64 out) (Wd .u64 out) (by simp [hH]) (by simp [g7, ← ho]; first | exact fz_wd rfl | exact isl_take_wd (Nat.le_refl _)) ?_
        refine AOPS.fcall (trim_fc out (by omega)) rfl rfl rfl hb176 (by simp (disch := first|omega|(simp only[ln];omega)) [idf_Wd', g7, g8]) (by simp (disch := first|omega|(simp only[ln];omega)) [g7, g8]) (by simp) ?_
        simp only [puts_some, updo]
        refine AOPS.runk 2 (by simp (disch := first|omega|(simp only[ln];omega)) [List.take_succ_cons, List.take_zero, idf_Wd', g7, g8]; rfl) ?_
        simp only [List.drop_succ_cons, List.drop_zero]
        refine AOPS.frz1 68 m 1 (wd .u64 [r]) (Wd .u64 [r]) (by simp) (by simp; first | exact fz_wd rfl | exact isl_take_wd (by simp)) ?_
        refine AOPS.fcall (trim_fc [r] (by simp)) rfl rfl rfl hb176 (by simp (disch := first|omega|(simp only[ln];omega)) [idf_Wd', g7, g8]) (by simp (disch := first|omega|(simp only[ln];omega)) [g7, g8]) (by simp) ?_
        simp only [puts_some, updo]
        refine AOPS.all (by simp (disch := first|omega|(simp only[ln];omega)) [idf_Wd', g7, g8]; rfl) ?_
        refine hK18 _ ?_
        refine AWP.ret ?_
        exact hK _ _ _ _ trivial ((Fin.mk (r := .tup [Wd .u64 (trimW out), Wd .u64 (trimW [r])]) (by simp [aRes, aResL, aRes1, idf_Wd'])).cast (by rw [t1, t2]))
    · try simp only [decide_eq_true_eq, decide_eq_false_iff_not] at h39
      have h1l : (mag (d : Int)).length ≠ 1 := by simp at h39; omega
      obtain ⟨m, hm⟩ : ∃ m, (mag (d : Int)).length = m + 2 := ⟨(mag (d : Int)).length - 2, by omega⟩
      obtain ⟨t, k, p, Vl, ht, htB, hbl, hk, rfl, hp0, hVl, dV, lV, vV, tV, hVB, _, hK0⟩ := dw_init had hm
      obtain ⟨J, hJ⟩ : ∃ J, (mag (a : Int)).length = J + (m + 2) := ⟨(mag (a : Int)).length - (m + 2), by omega⟩
      rw [hJ, Nat.add_sub_cancel] at hK0
      obtain ⟨n, hn⟩ : ∃ n, n = m + 2 := ⟨_, rfl⟩
      have hp1 : (1 : Int) ≤ 2 ^ k := by omega
      have hsa := shS_len da hp1 (Nat.le_refl (mag (a : Int)).length)
      have hsd := shS_len dd hp1 (Nat.le_refl (mag (d : Int)).length)
      have hsa' : (shW (mag (a : Int)) (2 ^ k)).length = J + n + 1 := by unfold shW; omega
      have hsd' : (shW (mag (d : Int)) (2 ^ k)).length = n + 1 := by unfold shW; omega
      have x4 : TN (((n : Int) - 1).toNat) (m + 1) := TN.i (by omega)
      have x5 : TN (((n : Int) - 2).toNat) (m) := TN.i (by omega)
      have hdn : (mag (d : Int)).length = n := by omega
      have han : (mag (a : Int)).length = J + n := by omega
      have eJ : ((J + n : Nat) : Int) - (n : Int) = J := by omega
      have eJ2 : (J : Int) + (n : Int) - (n : Int) = J := by omega
      have eJ3 : TN (((J : Int) + 1).toNat) (J + 1) := TN.i (by omega)
      have wb : (64 : Int) - (bitLen t : Int) = k := by omega
      rw [← hn] at lV
      have hPm := powB_pos m
      have c64 : (k : Int) ≤ 64 := by omega
      have hmk : TN (min k 64) (k) := TN.i (by omega)
      have hmk2 : TN (min (64 - k) 64) (64 - k) := TN.i (by omega)
      have fdk : ∀ x : Int, x.fdiv (2 ^ k) = x / 2 ^ k := fun x => Int.fdiv_eq_ediv_of_nonneg _ (Int.le_of_lt hp0)
      refine AWP.skip ?_
      refine hK6 _ ?_
      refine AWP.seqk fun K19 hK19 => ?_
      refine AWP.region ?_
      refine AOPS.runk 5 (by simp (disch := first|omega|(simp only[ln];omega)) [List.take_succ_cons, List.take_zero, idx_WdD (P := Try.prog) elT117 szT24, if_pos, idf_Wd', hdn, x4.e, ht, wb, ld_ip agT24]; rfl) ?_
      simp only [List.drop_succ_cons, List.drop_zero]
      refine AOPS.fcall (lz64_fc t htB) rfl rfl rfl hb171 (by simp (disch := first|omega|(simp only[ln];omega)) [idf_Wd', hdn, x4.e, ht, wb, ld_ip agT24]) (by simp (disch := first|omega|(simp only[ln];omega)) [hdn, x4.e, ht, wb, ld_ip agT24]) (by simp) ?_
      simp only [puts_some, updo]
      refine AOPS.all (by simp (disch := first|omega|(simp only[ln];omega)) [idx_WdD (P := Try.prog) elT117 szT24, if_pos, idf_Wd', hdn, x4.e, ht, wb, ld_ip agT24]; rfl) ?_
      refine hK19 _ ?_
      refine AWP.seqk fun K20 hK20 => ?_
      refine AWP.draw 8 Try.checked.mixed (by kernel_rfl) (by simp) ?_
      simp only [List.take_succ_cons, List.take_zero, List.drop_succ_cons, List.drop_zero]
      refine DP.runFk 2 (by simp (disch := first|omega|(simp only[ln];omega)) [runDf.eq_def, runF1, runF2, stepF.eq_def, updo.eq_def, hupo.eq_def, opSto1.eq_def, List.take_succ_cons, List.take_zero, if_pos, idf_Wd', hsa', hsd', wd_len]; rfl) fun fs21 hfs21 => ?_
      replace hfs21 : fs21.length = 2 := hfs21.trans rfl
      simp only [List.drop_succ_cons, List.drop_zero]
      refine DP.ocall (shifted_fo (mag (d : Int)) k dd hk (by omega)) rfl rfl rfl hb215 (by simp (disch := first|omega|(simp only[ln];omega)) [idf_Wd', hsa', hsd', wd_len]) (by simp (disch := first|omega|(simp only[ln];omega)) [hsa', hsd', wd_len]) (by simp) ?_
      simp only [updo]
      refine DP.runFk 4 (by simp (disch := first|omega|(simp only[ln];omega)) [runDf.eq_def, runF1, runF2, stepF.eq_def, updo.eq_def, hupo.eq_def, opSto1.eq_def, List.take_succ_cons, List.take_zero, if_pos, idf_Wd', hsa', hsd', wd_len]; rfl) fun fs22 hfs22 => ?_
      replace hfs22 : fs22.length = 4 := hfs22.trans rfl
      simp only [List.drop_succ_cons, List.drop_zero]
      refine DP.ocall (shifted_fo (mag (a : Int)) k da hk (by omega)) rfl rfl rfl hb215 (by simp (disch := first|omega|(simp only[ln];omega)) [idf_Wd', hsa', hsd', wd_len]) (by simp (disch := first|omega|(simp only[ln];omega)) [hsa', hsd', wd_len]) (by simp) ?_
      simp only [updo]
      refine DQ.runF (m := 8) (by simp only [List.length_append, List.length_cons, List.length_nil, hfs21, hfs22]; omega) _ _ _ (by kernel_rfl) rfl (by simp (disch := first|omega|(simp only[ln];omega)) [runDf.eq_def, runF1, runF2, stepF.eq_def, updo.eq_def, hupo.eq_def, opSto1.eq_def, if_pos, idf_Wd', hsa', hsd', wd_len]; rfl) ?_
      refine hK20 _ ?_
      refine AWP.seqk fun K23 hK23 => ?_
      refine AWP.frz1 11 (nx + 2) 1 (wd .u64 (shW (mag (d : Int)) (2 ^ k))) (Wd .u64 Vl) (by simp (disch := omega)) (by simp; rw [fz_wdt (by omega), hVl, hn]) ?_
      refine AWP.region (AOPS.all (by simp (disch := first|omega|(simp only[ln];omega)) [if_pos, len_Wd (P := Try.prog) #[117] rfl elT117, idf_Wd', han, eJ, eJ2]; rfl) ?_)
      refine hK23 _ ?_
      refine AWP.seqk fun K24 hK24 => ?_
      refine AWP.seqk fun K25 hK25 => ?_
      refine AWP.region (AOPS.all (by simp (disch := first|omega|(simp only[ln];omega)) [len_Wd (P := Try.prog) #[117] rfl elT117, idf_Wd', han, eJ, eJ2]; rfl) ?_)
      refine hK25 _ ?_
      refine AWP.block ?_
      obtain ⟨iu, hiu⟩ : ∃ iu, iu = nx + 7 := ⟨_, rfl⟩
      obtain ⟨io, hio⟩ : ∃ io, io = nx + 10 := ⟨_, rfl⟩
      have hne : iu ≠ io := by omega
      refine AWP.loop (fun N s => ∃ (j : Nat) (u out : List Int), N = j ∧ j ≤ J + 1 ∧ Kn ((a : Int) * 2 ^ k) ((d : Int) * 2 ^ k) u out j ∧ u.length = J + n + 1 ∧ out.length = J + 1 ∧ s.env 6 = .int .i64 (n : Int) ∧ s.env 10 = .int .i64 (k : Int) ∧ s.env 11 = Wd .u64 Vl ∧ s.env 12 = .osl iu 0 (J + n + 1) ∧ s.env 13 = .osl io 0 (J + 1) ∧ s.env 14 = .int .i64 ((j : Int) - 1) ∧ s.heap iu = some (1, wd .u64 u) ∧ s.heap io = some (1, wd .u64 out) ∧ s.nt = 326) (J + 1) (⟨J + 1, shW (mag (a : Int)) (2 ^ k), List.replicate (J + 1) 0, rfl, by omega, hK0, hsa', by simp, by simp, by simp, by simp, by simp (disch := omega) [hiu, hsa', wd_len], by simp (disch := omega) [hio, eJ3.e], by simp, by simp (disch := omega) [hiu], by simp (disch := omega) [hio, eJ3.e], rfl⟩) ?_
      clear hcm h34 had hlen hdl h39 h1l hm ht htB hbl tV hJ hsa hsd hsa' hsd' eJ eJ2 eJ3 wb hK0 lb hdn
      rintro N ⟨e, H, mm, nt⟩ ⟨j, u, out, rfl, hj, hKn, hul, hol, h6, h10, h11, h12, h13, h14, hU, hO, rfl⟩
      simp only [] at h6 h10 h11 h12 h13 h14 hU hO
      refine AWP.seqk fun K26 hK26 => ?_
      refine AWP.seqk fun K27 hK27 => ?_
      refine AWP.region (AOPS.all (by simp (disch := first|omega|(simp only[ln];omega)) [idf_Wd', h14]; rfl) ?_)
      refine hK27 _ ?_
      refine cond_ok _ (by simp (disch := first|omega|(simp only[ln];omega)); rfl) (fun h95 => ?_) (fun h95 => ?_)
      · try simp only [decide_eq_true_eq, decide_eq_false_iff_not] at h95
        obtain ⟨j, rfl⟩ : ∃ k, N = k + 1 := ⟨N - 1, by omega⟩
        have e14 : ((j + 1 : Nat) : Int) - 1 = j := by omega
        rw [e14] at h14
        have hz := hKn.top (n := n) (by rw [hn]; exact hVB)
        have hw := win_lt hKn.dig (j := j) (m := m) (by rw [← hn]; exact hz)
        have hwd := hKn.wide
        have tg := top_ge dV (m := m)
        rw [vV] at tg
        have g1 := hKn.dig.gt (by omega) (j + m + 2)
        have g2 := hKn.dig.gt (by omega) (j + m + 1)
        have g3 := hKn.dig.gt (by omega) (j + m)
        have gv1 := dV.gt (by omega) (m + 1)
        have gv2 := dV.gt (by omega) m
        have x1 : TN (((j : Int) + (n : Int)).toNat) (j + m + 2) := TN.i (by omega)
        have x2 : TN (((j : Int) + (n : Int) - 1).toNat) (j + m + 1) := TN.i (by omega)
        have x3 : TN (((j : Int) + (n : Int) - 2).toNat) (j + m) := TN.i (by omega)
        have x7 : TN (((j : Int) + (n : Int)).toNat) (j + n) := TN.i (by omega)
        have hjo : j < J + 1 := by omega
        have hW0 := val_nonneg (hKn.dig.drop j)
        refine AWP.skip ?_
        refine hK26 _ ?_
        refine AWP.seqk fun K28 hK28 => ?_
        refine AWP.block ?_
        refine AWP.seqk fun K29 hK29 => ?_
        refine AWP.region (AOPS.all (by simp (disch := first|omega|(simp only[ln];omega)) [idf_Wd']; rfl) ?_)
        refine hK29 _ ?_
        refine AWP.seqk fun K30 hK30 => ?_
        have J30 : ∀ s : St, (∃ q : Int, 0 ≤ q ∧ q < 18446744073709551616 ∧ val 18446744073709551616 (u.drop j) < (q + 1) * ((d : Int) * 2 ^ k) ∧ s.env 6 = .int .i64 (n : Int) ∧ s.env 10 = .int .i64 (k : Int) ∧ s.env 11 = Wd .u64 Vl ∧ s.env 12 = .osl iu 0 (J + n + 1) ∧ s.env 13 = .osl io 0 (J + 1) ∧ s.env 14 = .int .i64 (j : Int) ∧ s.env 15 = .int .u64 q ∧ s.heap iu = some (1, wd .u64 u) ∧ s.heap io = some (1, wd .u64 out) ∧ s.nt = 326) → K30 s := by
          clear h6 h10 h11 h12 h13 h14 hU hO hw hwd tg g1 g2 g3 gv1 gv2
          rintro ⟨e, H, mm, nt⟩ ⟨q, q0, qB, qlt, h6, h10, h11, h12, h13, h14, h15, hU, hO, rfl⟩
          simp only [] at h6 h10 h11 h12 h13 h14 h15 hU hO
          refine hK30 _ ?_
          refine AWP.seqk fun K31 hK31 => ?_
          refine AWP.region (AOPS.all (by simp (disch := first|omega|(simp only[ln];omega)) [idf_Wd']; rfl) ?_)
          refine hK31 _ ?_
          refine AWP.seqk fun K32 hK32 => ?_
          refine AWP.seqk fun K33 hK33 => ?_
          refine AWP.region (AOPS.all (by simp (disch := first|omega|(simp only[ln];omega)) [idf_Wd', h6]; rfl) ?_)
          refine hK33 _ ?_
          refine AWP.block ?_
          refine AWP.loop (fun N s => ∃ (i : Nat) (u1 : List Int) (br c : Int), N = n - i ∧ i ≤ n ∧ Win u u1 j n (-(q * val 18446744073709551616 (Vl.take i)) + (18446744073709551616 : Int) ^ i * (br + c)) ∧ 0 ≤ br ∧ br ≤ 1 ∧ 0 ≤ c ∧ c < 18446744073709551616 ∧ s.env 6 = .int .i64 (n : Int) ∧ s.env 10 = .int .i64 (k : Int) ∧ s.env 11 = Wd .u64 Vl ∧ s.env 12 = .osl iu 0 (J + n + 1) ∧ s.env 13 = .osl io 0 (J + 1) ∧ s.env 14 = .int .i64 (j : Int) ∧ s.env 15 = .int .u64 q ∧ s.env 20 = .int .u64 br ∧ s.env 21 = .int .u64 c ∧ s.env 175 = .int .i64 (n : Int) ∧ s.env 176 = .int .i64 (i : Int) ∧ s.heap iu = some (1, wd .u64 u1) ∧ s.heap io = some (1, wd .u64 out) ∧ s.nt = 326) (n) (⟨0, u, 0, 0, by omega, by omega, (Win.refl hKn.dig j n).cast (by simp [val]), by omega, by omega, by omega, by omega, by simp [h6], by simp [h10], by simp [h11], by simp [h12], by simp [h13], by simp [h14], by simp [h15], by simp, by simp, by simp, by simp, by simp (disch := omega) [hU], by simp (disch := omega) [hO], rfl⟩) ?_
          clear h6 h10 h11 h12 h13 h14 h15 hU hO
          rintro N ⟨e, H, mm, nt⟩ ⟨i, u1, br, c, rfl, hi, w, br0, br1, c0, cB, h6, h10, h11, h12, h13, h14, h15, h20, h21, h175, h176, hU, hO, rfl⟩
          simp only [] at h6 h10 h11 h12 h13 h14 h15 h20 h21 h175 h176 hU hO
          have hu1 : u1.length = J + n + 1 := w.len.trans hul
          refine AWP.seqk fun K34 hK34 => ?_
          refine AWP.region (AOPS.all (by simp (disch := first|omega|(simp only[ln];omega)) [idf_Wd', h175, h176]; rfl) ?_)
          refine hK34 _ ?_
          refine AWP.seqk fun K35 hK35 => ?_
          refine cond_ok _ (by simp (disch := first|omega|(simp only[ln];omega)); rfl) (fun h177 => ?_) (fun h177 => ?_)
          · try simp only [decide_eq_true_eq, decide_eq_false_iff_not] at h177
            have hi' : i < n := by omega
            have ws := win_sub w hi (by omega) dV q0 qB br0 br1 c0 cB
            have gvi := dV.gt (by omega) i
            have gui := w.dig.gt (by omega) (j + i)
            have x6 : TN (((j : Int) + (i : Int)).toNat) (j + i) := TN.i (by omega)
            have wm0 := ws.1
            have wm1 := ws.2.1
            have wm2 := ws.2.2.1
            refine AWP.skip ?_
            refine hK35 _ ?_
            refine AWP.seqk fun K36 hK36 => ?_
            refine AWP.block ?_
            refine AWP.seqk fun K37 hK37 => ?_
            refine AWP.region (AOPS.all (by simp (disch := first|omega|(simp only[ln];omega)) [idf_Wd', h176]; rfl) ?_)
            refine hK37 _ ?_
            refine AWP.seqk fun K38 hK38 => ?_
            refine AWP.region ?_
            refine AOPS.runk 5 (by simp (disch := first|omega|(simp only[ln];omega)) [List.take_succ_cons, List.take_zero, idx_WdD (P := Try.prog) elT117 szT24, if_pos, idf_Wd', h11, h15, lV, ld_ip agT24]; rfl) ?_
            simp only [List.drop_succ_cons, List.drop_zero]
            refine AOPS.fcall (mul64_fc q (gt Vl i) q0 qB gvi.1 gvi.2) rfl rfl rfl hb177 (by simp (disch := first|omega|(simp only[ln];omega)) [idf_Wd', h11, h15, lV, ld_ip agT24]) (by simp (disch := first|omega|(simp only[ln];omega)) [h11, h15, lV, ld_ip agT24]) (by simp) ?_
            simp only [puts_some, updo]
            refine AOPS.all (by simp (disch := first|omega|(simp only[ln];omega)) [idx_WdD (P := Try.prog) elT117 szT24, if_pos, idf_Wd', h11, h15, lV, ld_ip agT24]; rfl) ?_
            refine hK38 _ ?_
            refine AWP.seqk fun K39 hK39 => ?_
            refine AWP.region (AOPS.all (by simp (disch := first|omega|(simp only[ln];omega)) [idf_Wd']; rfl) ?_)
            refine hK39 _ ?_
            refine AWP.seqk fun K40 hK40 => ?_
            refine AWP.region ?_
            refine AOPS.runk 2 (by simp (disch := first|omega|(simp only[ln];omega)) [List.take_succ_cons, List.take_zero, idf_Wd', h21]; rfl) ?_
            simp only [List.drop_succ_cons, List.drop_zero]
            refine AOPS.ecall (FE.add64 nb178 (q * gt Vl i % 18446744073709551616) c 0 (by omega) c0 (by omega) (by omega)) rfl rfl rfl (by simp (disch := first|omega|(simp only[ln];omega)) [idf_Wd', h21]) (by simp (disch := first|omega|(simp only[ln];omega)) [h21]) (by simp) ?_
            simp only [puts_some, updo]
            refine AOPS.all (by simp (disch := first|omega|(simp only[ln];omega)) [idf_Wd', h21]; rfl) ?_
            refine hK40 _ ?_
            refine AWP.seqk fun K41 hK41 => ?_
            refine AWP.region (AOPS.all (by simp (disch := first|omega|(simp only[ln];omega)) [idf_Wd']; rfl) ?_)
            refine hK41 _ ?_
            refine AWP.region ?_
            refine AOPS.runk 12 (by simp (disch := first|omega|(simp only[ln];omega)) [List.take_succ_cons, List.take_zero, idx_WdD (P := Try.prog) elT117 szT24, if_pos, idf_Wd', h12, h14, h20, hU, x6.e, hu1, ld_ip agT24]; rfl) ?_
            simp only [List.drop_succ_cons, List.drop_zero]
            refine AOPS.ecall (FE.sub64 nb216 (gt u1 (j + i)) ((q * gt Vl i % 18446744073709551616 + c) % 18446744073709551616) br gui.1 (Int.emod_nonneg _ (by omega)) (Int.emod_lt_of_pos _ (by omega)) br0 br1) rfl rfl rfl (by simp (disch := first|omega|(simp only[ln];omega)) [idf_Wd', h12, h14, h20, hU, x6.e, hu1, ld_ip agT24]) (by simp (disch := first|omega|(simp only[ln];omega)) [h12, h14, h20, hU, x6.e, hu1, ld_ip agT24]) (by simp) ?_
            simp only [puts_some, updo]
            refine AOPS.all (by simp (disch := first|omega|(simp only[ln];omega)) [idx_WdD (P := Try.prog) elT117 szT24, if_pos, idf_Wd', h12, h14, h20, hU, x6.e, hu1, ld_ip agT24]; rfl) ?_
            refine hK36 _ ?_
            refine AWP.region (AOPS.all (by simp (disch := first|omega|(simp only[ln];omega)) [idf_Wd', h176]; rfl) ?_)
            refine ⟨n - (i + 1), by omega, i + 1, u1.set (j + i) ((gt u1 (j + i) - (q * gt Vl i % 18446744073709551616 + c) % 18446744073709551616 - br) % 18446744073709551616), _, _, rfl, by omega, ws.2.2.2, by split <;> omega, by split <;> omega, ws.2.1, ws.2.2.1, by simp [h6], by simp [h10], by simp [h11], by simp [h12], by simp [h13], by simp [h14], by simp [h15], by simp, by simp, by simp [h175], by simp (disch := omega) [h176], by simp (disch := omega) [hU], by simp (disch := omega) [hO], rfl⟩
          · try simp only [decide_eq_true_eq, decide_eq_false_iff_not] at h177
            have hin : i = n := by omega
            rw [hin, val_take_all (by omega), vV] at w
            have wl := win_sub_last w (by omega) br0 br1 c0 cB
            have gun := w.dig.gt (by omega) (j + n)
            refine AWP.exit ?_
            refine hK32 _ ?_
            refine AWP.seqk fun K42 hK42 => ?_
            refine AWP.region ?_
            refine AOPS.runk 12 (by simp (disch := first|omega|(simp only[ln];omega)) [List.take_succ_cons, List.take_zero, idx_WdD (P := Try.prog) elT117 szT24, if_pos, idf_Wd', h6, h12, h14, h20, h21, hU, x7.e, hu1, ld_ip agT24]; rfl) ?_
            simp only [List.drop_succ_cons, List.drop_zero]
            refine AOPS.ecall (FE.sub64 nb216 (gt u1 (j + n)) c br gun.1 c0 cB br0 br1) rfl rfl rfl (by simp (disch := first|omega|(simp only[ln];omega)) [idf_Wd', h6, h12, h14, h20, h21, hU, x7.e, hu1, ld_ip agT24]) (by simp (disch := first|omega|(simp only[ln];omega)) [h6, h12, h14, h20, h21, hU, x7.e, hu1, ld_ip agT24]) (by simp) ?_
            simp only [puts_some, updo]
            refine AOPS.all (by simp (disch := first|omega|(simp only[ln];omega)) [idx_WdD (P := Try.prog) elT117 szT24, if_pos, idf_Wd', h6, h12, h14, h20, h21, hU, x7.e, hu1, ld_ip agT24]; rfl) ?_
            refine hK42 _ ?_
            refine AWP.seqk fun K43 hK43 => ?_
            refine AWP.block ?_
            refine AWP.loop (fun N s => ∃ (q : Int) (u1 : List Int) (br : Int), N = q.toNat ∧ Win u u1 j n (-(q * ((d : Int) * 2 ^ k)) + (18446744073709551616 : Int) ^ (n + 1) * br) ∧ val 18446744073709551616 (u.drop j) < (q + 1) * ((d : Int) * 2 ^ k) ∧ 0 ≤ q ∧ q < 18446744073709551616 ∧ (br = 0 ∨ br = 1) ∧ s.env 6 = .int .i64 (n : Int) ∧ s.env 10 = .int .i64 (k : Int) ∧ s.env 11 = Wd .u64 Vl ∧ s.env 12 = .osl iu 0 (J + n + 1) ∧ s.env 13 = .osl io 0 (J + 1) ∧ s.env 14 = .int .i64 (j : Int) ∧ s.env 15 = .int .u64 q ∧ s.env 20 = .int .u64 br ∧ s.heap iu = some (1, wd .u64 u1) ∧ s.heap io = some (1, wd .u64 out) ∧ s.nt = 326) (q.toNat) (⟨q, u1.set (j + n) ((gt u1 (j + n) - c - br) % 18446744073709551616), (if gt u1 (j + n) < c + br then 1 else 0), rfl, wl, qlt, q0, qB, by split <;> simp, by simp [h6], by simp [h10], by simp [h11], by simp [h12], by simp [h13], by simp [h14], by simp [h15], by simp, by simp (disch := omega) [hU], by simp (disch := omega) [hO], rfl⟩) ?_
            clear h6 h10 h11 h12 h13 h14 h15 h20 h21 h175 h176 hU hO hu1 wl gun w qlt q0 qB
            rintro N ⟨e, H, mm, nt⟩ ⟨q, u1, br, rfl, w, qlt, q0, qB, hbr, h6, h10, h11, h12, h13, h14, h15, h20, hU, hO, rfl⟩
            simp only [] at h6 h10 h11 h12 h13 h14 h15 h20 hU hO
            have hu1 : u1.length = J + n + 1 := w.len.trans hul
            refine AWP.seqk fun K44 hK44 => ?_
            refine AWP.seqk fun K45 hK45 => ?_
            refine AWP.region (AOPS.all (by simp (disch := first|omega|(simp only[ln];omega)) [idf_Wd', h20]; rfl) ?_)
            refine hK45 _ ?_
            refine cond_ok _ (by simp (disch := first|omega|(simp only[ln];omega)); rfl) (fun h233 => ?_) (fun h233 => ?_)
            · try simp only [decide_eq_true_eq, decide_eq_false_iff_not] at h233
              have hb1 : br = 1 := by simpa using h233
              subst hb1
              rw [Int.mul_one] at w
              have wlt := w.lt hz
              have hneg : val 18446744073709551616 (u.drop j) < q * ((d : Int) * 2 ^ k) := by omega
              have hq1 : 1 ≤ q := by
                rcases Int.lt_or_le q 1 with h | h
                · have : q = 0 := by omega
                  subst this; omega
                · exact h
              refine AWP.skip ?_
              refine hK44 _ ?_
              refine AWP.block ?_
              refine AWP.seqk fun K46 hK46 => ?_
              refine AWP.region (AOPS.all (by simp (disch := first|omega|(simp only[ln];omega)) [idf_Wd', h15]; rfl) ?_)
              refine hK46 _ ?_
              refine AWP.seqk fun K47 hK47 => ?_
              refine AWP.region (AOPS.all (by simp (disch := first|omega|(simp only[ln];omega)) [idf_Wd']; rfl) ?_)
              refine hK47 _ ?_
              refine AWP.seqk fun K48 hK48 => ?_
              refine AWP.seqk fun K49 hK49 => ?_
              refine AWP.region (AOPS.all (by simp (disch := first|omega|(simp only[ln];omega)) [idf_Wd', h6]; rfl) ?_)
              refine hK49 _ ?_
              refine AWP.block ?_
              refine AWP.loop (fun N s => ∃ (i : Nat) (u2 : List Int) (c : Int), N = n - i ∧ i ≤ n ∧ Win u u2 j n (-(q * ((d : Int) * 2 ^ k)) + (18446744073709551616 : Int) ^ (n + 1) + val 18446744073709551616 (Vl.take i) - (18446744073709551616 : Int) ^ i * c) ∧ 0 ≤ c ∧ c ≤ 1 ∧ s.env 6 = .int .i64 (n : Int) ∧ s.env 10 = .int .i64 (k : Int) ∧ s.env 11 = Wd .u64 Vl ∧ s.env 12 = .osl iu 0 (J + n + 1) ∧ s.env 13 = .osl io 0 (J + 1) ∧ s.env 14 = .int .i64 (j : Int) ∧ s.env 15 = .int .u64 (q - 1) ∧ s.env 20 = .int .u64 1 ∧ s.env 26 = .int .u64 c ∧ s.env 236 = .int .i64 (n : Int) ∧ s.env 237 = .int .i64 (i : Int) ∧ s.heap iu = some (1, wd .u64 u2) ∧ s.heap io = some (1, wd .u64 out) ∧ s.nt = 326) (n) (⟨0, u1, 0, by omega, by omega, w.cast (by simp [val]), by omega, by omega, by simp [h6], by simp [h10], by simp [h11], by simp [h12], by simp [h13], by simp [h14], by simp, by simp [h20], by simp, by simp, by simp, by simp (disch := omega) [hU], by simp (disch := omega) [hO], rfl⟩) ?_
              clear h6 h10 h11 h12 h13 h14 h15 h20 hU hO hu1
              rintro N ⟨e, H, mm, nt⟩ ⟨i, u2, c, rfl, hi, w2, c0, c1, h6, h10, h11, h12, h13, h14, h15, h20, h26, h236, h237, hU, hO, rfl⟩
              simp only [] at h6 h10 h11 h12 h13 h14 h15 h20 h26 h236 h237 hU hO
              have hu2 : u2.length = J + n + 1 := w2.len.trans hul
              refine AWP.seqk fun K50 hK50 => ?_
              refine AWP.region (AOPS.all (by simp (disch := first|omega|(simp only[ln];omega)) [idf_Wd', h236, h237]; rfl) ?_)
              refine hK50 _ ?_
              refine AWP.seqk fun K51 hK51 => ?_
              refine cond_ok _ (by simp (disch := first|omega|(simp only[ln];omega)); rfl) (fun h238 => ?_) (fun h238 => ?_)
              · try simp only [decide_eq_true_eq, decide_eq_false_iff_not] at h238
                have hi' : i < n := by omega
                have ws := win_add w2 hi (by omega) dV c0 c1
                have gvi := dV.gt (by omega) i
                have gui := w2.dig.gt (by omega) (j + i)
                have x6 : TN (((j : Int) + (i : Int)).toNat) (j + i) := TN.i (by omega)
                refine AWP.skip ?_
                refine hK51 _ ?_
                refine AWP.seqk fun K52 hK52 => ?_
                refine AWP.block ?_
                refine AWP.seqk fun K53 hK53 => ?_
                refine AWP.region (AOPS.all (by simp (disch := first|omega|(simp only[ln];omega)) [idf_Wd', h237]; rfl) ?_)
                refine hK53 _ ?_
                refine AWP.old fun hold => ?_
                refine AWP.draw 20 Try.checked.mixed (by kernel_rfl) (by simp) ?_
                simp only [List.take_succ_cons, List.take_zero, List.drop_succ_cons, List.drop_zero]
                refine DP.runFk 15 (by simp (disch := first|omega|(simp only[ln];omega)) [runDf.eq_def, runF1, runF2, stepF.eq_def, updo.eq_def, hupo.eq_def, opSto1.eq_def, List.take_succ_cons, List.take_zero, idx_WdD (P := Try.prog) elT117 szT24, if_pos, idf_Wd', h11, h12, h14, h26, hU, x6.e, hu2, lV, ld_ip agT24]; rfl) fun fs54 hfs54 => ?_
                replace hfs54 : fs54.length = 15 := hfs54.trans rfl
                simp only [List.drop_succ_cons, List.drop_zero]
                refine DP.ecall (FE.add64 nb178 (gt u2 (j + i)) (gt Vl i) c gui.1 gvi.1 c0 c1) rfl rfl rfl (by simp (disch := first|omega|(simp only[ln];omega)) [idf_Wd', h11, h12, h14, h26, hU, x6.e, hu2, lV, ld_ip agT24]) (by simp (disch := first|omega|(simp only[ln];omega)) [h11, h12, h14, h26, hU, x6.e, hu2, lV, ld_ip agT24]) (by simp) ?_
                simp only [updo]
                refine DP.runFk 2 (by simp (disch := first|omega|(simp only[ln];omega)) [runDf.eq_def, runF1, runF2, stepF.eq_def, updo.eq_def, hupo.eq_def, opSto1.eq_def, List.take_succ_cons, List.take_zero, idx_WdD (P := Try.prog) elT117 szT24, if_pos, idf_Wd', h11, h12, h14, h26, hU, x6.e, hu2, lV, ld_ip agT24]; rfl) fun fs55 hfs55 => ?_
                replace hfs55 : fs55.length = 2 := hfs55.trans rfl
                simp only [List.drop_succ_cons, List.drop_zero]
                refine DP.runF1q (by simp (disch := first|omega|(simp only[ln];omega)) [runDf.eq_def, runF1, runF2, stepF.eq_def, updo.eq_def, hupo.eq_def, opSto1.eq_def, idx_WdD (P := Try.prog) elT117 szT24, if_pos, idf_Wd', h11, h12, h14, h26, hU, x6.e, hu2, lV, ld_ip agT24]; rfl) fun fq56 hfq56 => ?_
                replace hfq56 : fq56.q = [] := by rw [hfq56]; simp [qids, asksB, Op.operands, topId]
                simp only [updo]
                refine DP.runFk 1 (by simp (disch := first|omega|(simp only[ln];omega)) [runDf.eq_def, runF1, runF2, stepF.eq_def, updo.eq_def, hupo.eq_def, opSto1.eq_def, List.take_succ_cons, List.take_zero, idx_WdD (P := Try.prog) elT117 szT24, if_pos, idf_Wd', h11, h12, h14, h26, hU, x6.e, hu2, lV, ld_ip agT24]; rfl) fun fs57 hfs57 => ?_
                replace hfs57 : fs57.length = 1 := hfs57.trans rfl
                simp only [List.drop_succ_cons, List.drop_zero]
                refine DQ.runG (m := 20) [18] (by simp only [List.length_append, List.length_cons, List.length_nil, hfs54, hfs55, hfs57]; omega) (by intro k f hk hex; simp only [List.mem_cons, List.not_mem_nil, or_false] at hex; rcases hex with rfl <;> (simp [List.getElem?_append, hfs54, hfs55, hfs57] at hk; subst hk; assumption)) _ _ _ (fun id q h j hj => by have := hold id q h; simp at hj; omega) (by kernel_rfl) rfl (by simp (disch := first|omega|(simp only[ln];omega)) [runDf.eq_def, runF1, runF2, stepF.eq_def, updo.eq_def, hupo.eq_def, opSto1.eq_def, idx_WdD (P := Try.prog) elT117 szT24, if_pos, idf_Wd', h11, h12, h14, h26, hU, x6.e, hu2, lV, ld_ip agT24]; rfl) ?_
                refine hK52 _ ?_
                refine AWP.region (AOPS.all (by simp (disch := first|omega|(simp only[ln];omega)) [idf_Wd', h237]; rfl) ?_)
                refine ⟨n - (i + 1), by omega, i + 1, u2.set (j + i) ((gt u2 (j + i) + gt Vl i + c) % 18446744073709551616), (gt u2 (j + i) + gt Vl i + c) / 18446744073709551616, rfl, by omega, ws.2.2, ws.1, ws.2.1, by simp [h6], by simp [h10], by simp [h11], by simp [h12], by simp [h13], by simp [h14], by simp [h15], by simp [h20], by simp, by simp [h236], by simp (disch := omega) [h237], by simp (disch := omega) [hU], by simp (disch := omega) [hO], rfl⟩
              · try simp only [decide_eq_true_eq, decide_eq_false_iff_not] at h238
                have hin : i = n := by omega
                rw [hin, val_take_all (by omega), vV] at w2
                have wl := win_add_last w2 (by omega) c0 c1
                have gun := w2.dig.gt (by omega) (j + n)
                have wl0 := wl.1
                have wl1 := wl.2.1
                refine AWP.exit ?_
                refine hK48 _ ?_
                refine AWP.seqk fun K58 hK58 => ?_
                refine AWP.region ?_
                refine AOPS.runk 11 (by simp (disch := first|omega|(simp only[ln];omega)) [List.take_succ_cons, List.take_zero, idx_WdD (P := Try.prog) elT117 szT24, if_pos, idf_Wd', h6, h12, h14, h26, hU, x7.e, hu2, ld_ip agT24]; rfl) ?_
                simp only [List.drop_succ_cons, List.drop_zero]
                refine AOPS.ecall (FE.add64 nb178 (gt u2 (j + n)) 0 c gun.1 (by omega) c0 c1) rfl rfl rfl (by simp (disch := first|omega|(simp only[ln];omega)) [idf_Wd', h6, h12, h14, h26, hU, x7.e, hu2, ld_ip agT24]) (by simp (disch := first|omega|(simp only[ln];omega)) [h6, h12, h14, h26, hU, x7.e, hu2, ld_ip agT24]) (by simp) ?_
                simp only [puts_some, updo]
                refine AOPS.all (by simp (disch := first|omega|(simp only[ln];omega)) [idx_WdD (P := Try.prog) elT117 szT24, if_pos, idf_Wd', h6, h12, h14, h26, hU, x7.e, hu2, ld_ip agT24]; rfl) ?_
                refine hK58 _ ?_
                refine AWP.region (AOPS.all (by simp (disch := first|omega|(simp only[ln];omega)) [idf_Wd', h20]; rfl) ?_)
                refine ⟨(q - 1).toNat, by omega, q - 1, u2.set (j + n) ((gt u2 (j + n) + c) % 18446744073709551616), 1 - (gt u2 (j + n) + c) / 18446744073709551616, rfl, wl.2.2.cast (ab_cast _ _ _ _), by rw [show q - 1 + 1 = q by omega]; exact hneg, by omega, by omega, by omega, by simp [h6], by simp [h10], by simp [h11], by simp [h12], by simp [h13], by simp [h14], by simp [h15], by simp, by simp (disch := omega) [hU], by simp (disch := omega) [hO], rfl⟩
            · try simp only [decide_eq_true_eq, decide_eq_false_iff_not] at h233
              have hb0 : br = 0 := by simp at h233; omega
              subst hb0
              rw [Int.mul_zero, Int.add_zero] at w
              refine AWP.exit ?_
              refine hK43 _ ?_
              refine AWP.region (AOPS.all (by simp (disch := first|omega|(simp only[ln];omega)) [idx_WdD (P := Try.prog) elT117 szT24, if_pos, idf_Wd', h13, h14, h15, hO, hol]; rfl) ?_)
              refine hK28 _ ?_
              refine AWP.region (AOPS.all (by simp (disch := first|omega|(simp only[ln];omega)) [idf_Wd', h14]; rfl) ?_)
              refine ⟨j, by omega, j, u1, out.set j q, rfl, by omega, hKn.step (n := n) w q0 qB qlt (by omega), w.len.trans hul, by simp [hol], by simp [h6], by simp [h10], by simp [h11], by simp [h12], by simp [h13], by simp [h14], by simp (disch := omega) [hU], by simp (disch := omega) [hO], rfl⟩
        refine AWP.seqk fun K59 hK59 => ?_
        refine AWP.drawF 12 Try.checked.mixed (by kernel_rfl) (by simp (disch := first|omega|(simp only[ln];omega)) [runDf.eq_def, runF1, runF2, stepF.eq_def, updo.eq_def, hupo.eq_def, opSto1.eq_def, idx_WdD (P := Try.prog) elT117 szT24, if_pos, idf_Wd', h6, h11, h12, h14, hU, x1.e, x4.e, lV, hul, ld_ip agT24]; rfl) ?_
        refine hK59 _ ?_
        refine cond_ok _ (by simp (disch := first|omega|(simp only[ln];omega)); rfl) (fun h109 => ?_) (fun h109 => ?_)
        · try simp only [decide_eq_true_eq, decide_eq_false_iff_not] at h109
          have hQ0 := Qh.start hPm hw tg g1.1 h109 gv1.2 g2.1 g2.2 g3.2 gv2.1
          refine AWP.seqk fun K60 hK60 => ?_
          refine AWP.region (AOPS.all (by simp (disch := first|omega|(simp only[ln];omega)) [idf_Wd']; rfl) ?_)
          refine hK60 _ ?_
          refine AWP.seqk fun K61 hK61 => ?_
          refine AWP.draw 22 Try.checked.mixed (by kernel_rfl) (by simp) ?_
          simp only [List.take_succ_cons, List.take_zero, List.drop_succ_cons, List.drop_zero]
          refine DP.runFk 18 (by simp (disch := first|omega|(simp only[ln];omega)) [runDf.eq_def, runF1, runF2, stepF.eq_def, updo.eq_def, hupo.eq_def, opSto1.eq_def, List.take_succ_cons, List.take_zero, idx_WdD (P := Try.prog) elT117 szT24, if_pos, idf_Wd', h6, h11, h12, h14, hU, x1.e, x2.e, x4.e, lV, hul, ld_ip agT24]; rfl) fun fs62 hfs62 => ?_
          replace hfs62 : fs62.length = 18 := hfs62.trans rfl
          simp only [List.drop_succ_cons, List.drop_zero]
          refine DP.fcall (div64_fc (hi := gt u (j + m + 2)) (lo := gt u (j + m + 1)) (y0 := gt Vl (m + 1)) g1.1 h109 g2.1 g2.2 gv1.2) rfl rfl rfl hb214 (by simp (disch := first|omega|(simp only[ln];omega)) [idf_Wd', h6, h11, h12, h14, hU, x1.e, x2.e, x4.e, lV, hul, ld_ip agT24]) (by simp (disch := first|omega|(simp only[ln];omega)) [h6, h11, h12, h14, hU, x1.e, x2.e, x4.e, lV, hul, ld_ip agT24]) (by simp) ?_
          simp only [updo]
          refine DP.runFk 3 (by simp (disch := first|omega|(simp only[ln];omega)) [runDf.eq_def, runF1, runF2, stepF.eq_def, updo.eq_def, hupo.eq_def, opSto1.eq_def, List.take_succ_cons, List.take_zero, idx_WdD (P := Try.prog) elT117 szT24, if_pos, idf_Wd', h6, h11, h12, h14, hU, x1.e, x2.e, x4.e, lV, hul, ld_ip agT24]; rfl) fun fs63 hfs63 => ?_
          replace hfs63 : fs63.length = 3 := hfs63.trans rfl
          simp only [List.drop_succ_cons, List.drop_zero]
          refine DQ.runF (m := 22) (by simp only [List.length_append, List.length_cons, List.length_nil, hfs62, hfs63]; omega) _ _ _ (by kernel_rfl) rfl (by simp (disch := first|omega|(simp only[ln];omega)) [runDf.eq_def, runF1, runF2, stepF.eq_def, updo.eq_def, hupo.eq_def, opSto1.eq_def, idx_WdD (P := Try.prog) elT117 szT24, if_pos, idf_Wd', h6, h11, h12, h14, hU, x1.e, x2.e, x4.e, lV, hul, ld_ip agT24]; rfl) ?_
          refine hK61 _ ?_
          refine AWP.block ?_
          refine AWP.loop (fun N s => ∃ q r : Int, N = q.toNat ∧ Qh (val 18446744073709551616 (u.drop j)) ((d : Int) * 2 ^ k) (gt u (j + m + 2)) (gt u (j + m + 1)) (gt Vl (m + 1)) q r ∧ s.env 6 = .int .i64 (n : Int) ∧ s.env 10 = .int .i64 (k : Int) ∧ s.env 11 = Wd .u64 Vl ∧ s.env 12 = .osl iu 0 (J + n + 1) ∧ s.env 13 = .osl io 0 (J + 1) ∧ s.env 14 = .int .i64 (j : Int) ∧ s.env 15 = .int .u64 q ∧ s.env 16 = .int .u64 r ∧ s.heap iu = some (1, wd .u64 u) ∧ s.heap io = some (1, wd .u64 out) ∧ s.nt = 326) (((gt u (j + m + 2) * 18446744073709551616 + gt u (j + m + 1)) / gt Vl (m + 1)).toNat) (⟨_, _, rfl, hQ0, by simp [h6], by simp [h10], by simp [h11], by simp [h12], by simp [h13], by simp [h14], by simp, by simp, by simp (disch := omega) [hU], by simp (disch := omega) [hO], rfl⟩) ?_
          clear h6 h10 h11 h12 h13 h14 hU hO
          rintro N ⟨e, H, mm, nt⟩ ⟨q, r, rfl, hQ, h6, h10, h11, h12, h13, h14, h15, h16, hU, hO, rfl⟩
          simp only [] at h6 h10 h11 h12 h13 h14 h15 h16 hU hO
          have hq0 := hQ.q0
          have hqB := hQ.qB
          have hr0 := hQ.r0
          have hrB := hQ.rB
          have m0 : 0 ≤ q * gt Vl m := Int.mul_nonneg hq0 gv2.1
          refine AWP.block ?_
          refine AWP.seqk fun K64 hK64 => ?_
          refine AWP.region ?_
          refine AOPS.runk 6 (by simp (disch := first|omega|(simp only[ln];omega)) [List.take_succ_cons, List.take_zero, idx_WdD (P := Try.prog) elT117 szT24, if_pos, idf_Wd', h6, h11, h15, x5.e, lV, ld_ip agT24]; rfl) ?_
          simp only [List.drop_succ_cons, List.drop_zero]
          refine AOPS.fcall (mul64_fc q (gt Vl m) hq0 hqB gv2.1 gv2.2) rfl rfl rfl hb177 (by simp (disch := first|omega|(simp only[ln];omega)) [idf_Wd', h6, h11, h15, x5.e, lV, ld_ip agT24]) (by simp (disch := first|omega|(simp only[ln];omega)) [h6, h11, h15, x5.e, lV, ld_ip agT24]) (by simp) ?_
          simp only [puts_some, updo]
          refine AOPS.all (by simp (disch := first|omega|(simp only[ln];omega)) [idx_WdD (P := Try.prog) elT117 szT24, if_pos, idf_Wd', h6, h11, h15, x5.e, lV, ld_ip agT24]; rfl) ?_
          refine hK64 _ ?_
          refine AWP.seqk fun K65 hK65 => ?_
          refine AWP.seqk fun K66 hK66 => ?_
          by_cases hA : q * gt Vl m / 18446744073709551616 < r
          · have c1 : decide (q * gt Vl m / 18446744073709551616 < r) = true := by simp; omega
            refine AWP.region (AOPS.all (by simp (disch := first|omega|(simp only[ln];omega)) [idx_WdD (P := Try.prog) elT117 szT24, if_pos, idf_Wd', h16, c1]; rfl) ?_)
            refine hK66 _ ?_
            refine cond_ok _ (by simp (disch := first|omega|(simp only[ln];omega)); rfl) (fun h160 => ?_) (fun h160 => ?_)
            · try simp only [decide_eq_true_eq, decide_eq_false_iff_not] at h160
              refine AWP.exit ?_
              refine J30 _ ?_
              exact ⟨q, hq0, hqB, hQ.lt, by simp [h6], by simp [h10], by simp [h11], by simp [h12], by simp [h13], by simp [h14], by simp [h15], by simp (disch := omega) [hU], by simp (disch := omega) [hO], rfl⟩
            · simp at h160
          · have c1 : decide (q * gt Vl m / 18446744073709551616 < r) = false := by simp; omega
            by_cases hB : q * gt Vl m / 18446744073709551616 = r
            · have c2 : (q * gt Vl m / 18446744073709551616 == r) = true := by simp [hB]
              refine AWP.region (AOPS.all (by simp (disch := first|omega|(simp only[ln];omega)) [idx_WdD (P := Try.prog) elT117 szT24, if_pos, idf_Wd', h6, h12, h14, h16, hU, x3.e, hul, c1, c2, ld_ip agT24]; rfl) ?_)
              refine hK66 _ ?_
              refine cond_ok _ (by simp (disch := first|omega|(simp only[ln];omega)); rfl) (fun h160 => ?_) (fun h160 => ?_)
              · try simp only [decide_eq_true_eq, decide_eq_false_iff_not] at h160
                refine AWP.exit ?_
                refine J30 _ ?_
                exact ⟨q, hq0, hqB, hQ.lt, by simp [h6], by simp [h10], by simp [h11], by simp [h12], by simp [h13], by simp [h14], by simp [h15], by simp (disch := omega) [hU], by simp (disch := omega) [hO], rfl⟩
              · try simp only [decide_eq_true_eq, decide_eq_false_iff_not] at h160
                refine AWP.skip ?_
                refine hK65 _ ?_
                refine AWP.seqk fun K67 hK67 => ?_
                obtain ⟨s1, s2, s3⟩ := hQ.step hPm hw tg g3.1 (by omega)
                refine AWP.region (AOPS.all (by simp (disch := first|omega|(simp only[ln];omega)) [idf_Wd', h15]; rfl) ?_)
                refine hK67 _ ?_
                refine AWP.seqk fun K68 hK68 => ?_
                refine AWP.region (AOPS.all (by simp (disch := first|omega|(simp only[ln];omega)) [idf_Wd']; rfl) ?_)
                refine hK68 _ ?_
                refine AWP.seqk fun K69 hK69 => ?_
                refine AWP.region ?_
                refine AOPS.runk 6 (by simp (disch := first|omega|(simp only[ln];omega)) [List.take_succ_cons, List.take_zero, idx_WdD (P := Try.prog) elT117 szT24, if_pos, idf_Wd', h6, h11, h16, x4.e, lV, ld_ip agT24]; rfl) ?_
                simp only [List.drop_succ_cons, List.drop_zero]
                refine AOPS.ecall (FE.add64 nb178 r (gt Vl (m + 1)) 0 hQ.r0 gv1.1 (by omega) (by omega)) rfl rfl rfl (by simp (disch := first|omega|(simp only[ln];omega)) [idf_Wd', h6, h11, h16, x4.e, lV, ld_ip agT24]) (by simp (disch := first|omega|(simp only[ln];omega)) [h6, h11, h16, x4.e, lV, ld_ip agT24]) (by simp) ?_
                simp only [puts_some, updo]
                refine AOPS.all (by simp (disch := first|omega|(simp only[ln];omega)) [idx_WdD (P := Try.prog) elT117 szT24, if_pos, idf_Wd', h6, h11, h16, x4.e, lV, ld_ip agT24]; rfl) ?_
                refine hK69 _ ?_
                refine AWP.seqk fun K70 hK70 => ?_
                refine AWP.region (AOPS.all (by simp (disch := first|omega|(simp only[ln];omega)) [idf_Wd']; rfl) ?_)
                refine hK70 _ ?_
                refine cond_ok _ (by simp (disch := first|omega|(simp only[ln];omega)); rfl) (fun h174 => ?_) (fun h174 => ?_)
                · try simp only [decide_eq_true_eq, decide_eq_false_iff_not] at h174
                  refine AWP.exit ?_
                  refine J30 _ ?_
                  exact ⟨q - 1, by omega, by omega, s2, by simp [h6], by simp [h10], by simp [h11], by simp [h12], by simp [h13], by simp [h14], by simp [h15], by simp (disch := omega) [hU], by simp (disch := omega) [hO], rfl⟩
                · try simp only [decide_eq_true_eq, decide_eq_false_iff_not] at h174
                  have hlt : r + gt Vl (m + 1) < 18446744073709551616 := by simp at h174; omega
                  refine AWP.skip ?_
                  refine ⟨(q - 1).toNat, by omega, q - 1, r + gt Vl (m + 1), rfl, ⟨s3, by omega, hlt, by omega, by omega, s2⟩, by simp [h6], by simp [h10], by simp [h11], by simp [h12], by simp [h13], by simp [h14], by simp, by simp [Int.emod_eq_of_lt (show 0 ≤ r + gt Vl (m + 1) by omega) hlt], by simp (disch := omega) [hU], by simp (disch := omega) [hO], rfl⟩
            · have c2 : (q * gt Vl m / 18446744073709551616 == r) = false := by simp [hB]
              refine AWP.region (AOPS.all (by simp (disch := first|omega|(simp only[ln];omega)) [idx_WdD (P := Try.prog) elT117 szT24, if_pos, idf_Wd', h16, c1, c2]; rfl) ?_)
              refine hK66 _ ?_
              refine cond_ok _ (by simp (disch := first|omega|(simp only[ln];omega)); rfl) (fun h160 => ?_) (fun h160 => ?_)
              · simp at h160
              · try simp only [decide_eq_true_eq, decide_eq_false_iff_not] at h160
                refine AWP.skip ?_
                refine hK65 _ ?_
                refine AWP.seqk fun K71 hK71 => ?_
                obtain ⟨s1, s2, s3⟩ := hQ.step hPm hw tg g3.1 (by omega)
                refine AWP.region (AOPS.all (by simp (disch := first|omega|(simp only[ln];omega)) [idf_Wd', h15]; rfl) ?_)
                refine hK71 _ ?_
                refine AWP.seqk fun K72 hK72 => ?_
                refine AWP.region (AOPS.all (by simp (disch := first|omega|(simp only[ln];omega)) [idf_Wd']; rfl) ?_)
                refine hK72 _ ?_
                refine AWP.seqk fun K73 hK73 => ?_
                refine AWP.region ?_
                refine AOPS.runk 6 (by simp (disch := first|omega|(simp only[ln];omega)) [List.take_succ_cons, List.take_zero, idx_WdD (P := Try.prog) elT117 szT24, if_pos, idf_Wd', h6, h11, h16, x4.e, lV, ld_ip agT24]; rfl) ?_
                simp only [List.drop_succ_cons, List.drop_zero]
                refine AOPS.ecall (FE.add64 nb178 r (gt Vl (m + 1)) 0 hQ.r0 gv1.1 (by omega) (by omega)) rfl rfl rfl (by simp (disch := first|omega|(simp only[ln];omega)) [idf_Wd', h6, h11, h16, x4.e, lV, ld_ip agT24]) (by simp (disch := first|omega|(simp only[ln];omega)) [h6, h11, h16, x4.e, lV, ld_ip agT24]) (by simp) ?_
                simp only [puts_some, updo]
                refine AOPS.all (by simp (disch := first|omega|(simp only[ln];omega)) [idx_WdD (P := Try.prog) elT117 szT24, if_pos, idf_Wd', h6, h11, h16, x4.e, lV, ld_ip agT24]; rfl) ?_
                refine hK73 _ ?_
                refine AWP.seqk fun K74 hK74 => ?_
                refine AWP.region (AOPS.all (by simp (disch := first|omega|(simp only[ln];omega)) [idf_Wd']; rfl) ?_)
                refine hK74 _ ?_
                refine cond_ok _ (by simp (disch := first|omega|(simp only[ln];omega)); rfl) (fun h174 => ?_) (fun h174 => ?_)
                · try simp only [decide_eq_true_eq, decide_eq_false_iff_not] at h174
                  refine AWP.exit ?_
                  refine J30 _ ?_
                  exact ⟨q - 1, by omega, by omega, s2, by simp [h6], by simp [h10], by simp [h11], by simp [h12], by simp [h13], by simp [h14], by simp [h15], by simp (disch := omega) [hU], by simp (disch := omega) [hO], rfl⟩
                · try simp only [decide_eq_true_eq, decide_eq_false_iff_not] at h174
                  have hlt : r + gt Vl (m + 1) < 18446744073709551616 := by simp at h174; omega
                  refine AWP.skip ?_
                  refine ⟨(q - 1).toNat, by omega, q - 1, r + gt Vl (m + 1), rfl, ⟨s3, by omega, hlt, by omega, by omega, s2⟩, by simp [h6], by simp [h10], by simp [h11], by simp [h12], by simp [h13], by simp [h14], by simp, by simp [Int.emod_eq_of_lt (show 0 ≤ r + gt Vl (m + 1) by omega) hlt], by simp (disch := omega) [hU], by simp (disch := omega) [hO], rfl⟩
        · try simp only [decide_eq_true_eq, decide_eq_false_iff_not] at h109
          refine AWP.skip ?_
          refine J30 _ ?_
          exact ⟨18446744073709551615, by omega, by omega, by omega, by simp [h6], by simp [h10], by simp [h11], by simp [h12], by simp [h13], by simp [h14], by simp, by simp (disch := omega) [hU], by simp (disch := omega) [hO], rfl⟩
      · try simp only [decide_eq_true_eq, decide_eq_false_iff_not] at h95
        obtain rfl : N = 0 := by omega
        obtain ⟨f1, f2⟩ := dw_fin hp0 hKn
        have hltn : val 18446744073709551616 u < (18446744073709551616 : Int) ^ n := by
          have := hKn.hi
          rw [List.drop_zero] at this
          rw [hn]; omega
        obtain ⟨M, hM⟩ : ∃ M, M = (trimW (u.take n)).length := ⟨_, rfl⟩
        have hMn : M ≤ n := by
          have := trimW_length (u.take n)
          rw [List.length_take] at this; omega
        refine AWP.exit ?_
        refine hK24 _ ?_
        refine AWP.seqk fun K75 hK75 => ?_
        refine AWP.region ?_
        refine AOPS.runk 3 (by simp (disch := first|omega|(simp only[ln];omega)) [List.take_succ_cons, List.take_zero, if_pos, idf_Wd', h6, h12, hU, hul]; rfl) ?_
        simp only [List.drop_succ_cons, List.drop_zero]
        refine AOPS.acall (trim_ac u iu n _ _ (by simp [hU]) (by omega) (by omega)) rfl rfl rfl hb176 (by simp (disch := first|omega|(simp only[ln];omega)) [idf_Wd', h6, h12, hU, hul]) (by simp (disch := first|omega|(simp only[ln];omega)) [h6, h12, hU, hul]) (by simp) ?_
        rintro _ H5 nx5 ⟨rfl, rfl, hnx5⟩
        rw [← hM]
        simp only [puts_some, updo]
        refine AOPS.all (by simp (disch := first|omega|(simp only[ln];omega)) [if_pos, idf_Wd', h6, h12, hU, hul]; rfl) ?_
        refine hK75 _ ?_
        refine AWP.seqk fun K76 hK76 => ?_
        refine AWP.seqk fun K77 hK77 => ?_
        refine AWP.region (AOPS.all (by simp (disch := first|omega|(simp only[ln];omega)) [len_Wd (P := Try.prog) #[117] rfl elT117, idf_Wd', hU]; rfl) ?_)
        refine hK77 _ ?_
        refine AWP.block ?_
        refine AWP.loop (fun N s => ∃ (i : Nat) (o : List Int), N = M - i ∧ i ≤ M ∧ o.length = J + n + 1 ∧ Dig 18446744073709551616 o ∧ (∀ x, x < i → gt o x = gt (trimW (u.take n)) x / 2 ^ k + gt (trimW (u.take n)) (x + 1) % 2 ^ k * 2 ^ (64 - k)) ∧ (∀ x, i ≤ x → x < M → gt o x = gt (trimW (u.take n)) x) ∧ s.env 10 = .int .i64 (k : Int) ∧ s.env 13 = .osl io 0 (J + 1) ∧ s.env 28 = .osl iu 0 M ∧ s.env 289 = .int .i64 (M : Int) ∧ s.env 290 = .int .i64 (i : Int) ∧ s.heap iu = some (1, wd .u64 o) ∧ s.heap io = some (1, wd .u64 out) ∧ s.nt = 326) (M) (⟨0, u, by omega, by omega, hul, hKn.dig, by intro x hx; omega, by intro x _ hx; rw [gt_trimW x (by omega), gt_take (by omega)], by simp [h10], by simp [h13], by simp, by simp, by simp, by simp (disch := omega) [hU], by simp (disch := omega) [hO], rfl⟩) ?_
        clear h6 h10 h11 h12 h13 h14 hU hO
        rintro N ⟨e, H, mm, nt⟩ ⟨i, o, rfl, hi, hol2, dO, hs1, hs2, h10, h13, h28, h289, h290, hU, hO, rfl⟩
        simp only [] at h10 h13 h28 h289 h290 hU hO
        refine AWP.seqk fun K78 hK78 => ?_
        refine AWP.region (AOPS.all (by simp (disch := first|omega|(simp only[ln];omega)) [idf_Wd', h289, h290]; rfl) ?_)
        refine hK78 _ ?_
        refine AWP.seqk fun K79 hK79 => ?_
        refine cond_ok _ (by simp (disch := first|omega|(simp only[ln];omega)); rfl) (fun h291 => ?_) (fun h291 => ?_)
        · try simp only [decide_eq_true_eq, decide_eq_false_iff_not] at h291
          have hi' : i < M := by omega
          have dT := (hKn.dig.take n).trim
          have gi := dT.gt (by omega) i
          have gi2 := dT.gt (by omega) (i + 1)
          have od := or_down (y := gt (trimW (u.take n)) (i + 1)) hk gi.1 gi.2
          have hoi := hs2 i (Nat.le_refl _) hi'
          have i1 : TN (((i : Int) + 1).toNat) (i + 1) := TN.i (by omega)
          refine AWP.skip ?_
          refine hK79 _ ?_
          refine AWP.seqk fun K80 hK80 => ?_
          refine AWP.block ?_
          refine AWP.seqk fun K81 hK81 => ?_
          refine AWP.region (AOPS.all (by simp (disch := first|omega|(simp only[ln];omega)) [idf_Wd', h290]; rfl) ?_)
          refine hK81 _ ?_
          refine AWP.seqk fun K82 hK82 => ?_
          refine AWP.region (AOPS.all (by simp (disch := first|omega|(simp only[ln];omega)) [idf_Wd']; rfl) ?_)
          refine hK82 _ ?_
          refine AWP.seqk fun K83 hK83 => ?_
          refine AWP.seqk fun K84 hK84 => ?_
          by_cases hiM : i + 1 < M
          · have c1 : decide ((i : Int) + 1 < (M : Int)) = true := by simp; omega
            have c2 : True := trivial
            refine AWP.region (AOPS.all (by simp (disch := first|omega|(simp only[ln];omega)) [len_Wd (P := Try.prog) #[117] rfl elT117, idf_Wd', h10, h28, hU, c1]; rfl) ?_)
            refine hK84 _ ?_
            refine cond_ok _ (by simp (disch := first|omega|(simp only[ln];omega)); rfl) (fun h301 => ?_) (fun h301 => ?_)
            · try simp only [decide_eq_true_eq, decide_eq_false_iff_not] at h301
              have hk0 : 0 < k := by omega
              have ho2 := hs2 (i + 1) (by omega) hiM
              have wl : IntKind.u64.wrap (gt (trimW (u.take n)) (i + 1) * 2 ^ (64 - k)) = gt (trimW (u.take n)) (i + 1) % 2 ^ k * 2 ^ (64 - k) := by rw [wrap_u64m, shl_low (by omega)]
              have w9 : TN (((64 : Int) - (k : Int)).toNat) (64 - k) := TN.i (by omega)
              have od1 := od.1
              refine AWP.region (AOPS.all (by simp (disch := first|omega|(simp only[ln];omega)) [idx_WdD (P := Try.prog) elT117 szT24, if_pos, idf_Wd', h10, h28, hU, hol2, i1.e, ho2, w9.e, hmk2.e, wl, IntKind.bits, ld_ip agT24]; rfl) ?_)
              refine hK83 _ ?_
              refine AWP.region (AOPS.all (by simp (disch := first|omega|(simp only[ln];omega)) [idx_WdD (P := Try.prog) elT117 szT24, if_pos, idf_Wd', h10, h28, hU, hol2, hoi, hmk.e, IntKind.bits, fdk, od1, ld_ip agT24]; rfl) ?_)
              refine hK80 _ ?_
              refine AWP.region (AOPS.all (by simp (disch := first|omega|(simp only[ln];omega)) [idf_Wd', h290]; rfl) ?_)
              refine ⟨M - (i + 1), by omega, i + 1, o.set i (gt (trimW (u.take n)) i / 2 ^ k + gt (trimW (u.take n)) (i + 1) % 2 ^ k * 2 ^ (64 - k)), rfl, by omega, by simp [hol2], dO.set _ od.2.1 od.2.2, ?_, ?_, by simp [h10], by simp [h13], by simp [h28], by simp [h289], by simp (disch := omega) [h290], by simp, by simp (disch := omega) [hO], rfl⟩
              · intro x hx
                by_cases hxi : x = i
                · subst hxi; rw [gt_set (by omega)]
                · rw [gt_set_ne (by omega)]; exact hs1 x (by omega)
              · intro x hx hx2
                rw [gt_set_ne (by omega)]; exact hs2 x (by omega) hx2
            · try simp only [decide_eq_true_eq, decide_eq_false_iff_not] at h301
              have hk0 : k = 0 := by omega
              have hzz : gt (trimW (u.take n)) (i + 1) % 2 ^ k * 2 ^ (64 - k) = 0 := by subst hk0; simp
              have od1 := od.1
              rw [hzz, Int.add_zero] at od1
              refine AWP.skip ?_
              refine hK83 _ ?_
              refine AWP.region (AOPS.all (by simp (disch := first|omega|(simp only[ln];omega)) [idx_WdD (P := Try.prog) elT117 szT24, if_pos, idf_Wd', h10, h28, hU, hol2, hoi, hmk.e, IntKind.bits, fdk, od1, ld_ip agT24]; rfl) ?_)
              refine hK80 _ ?_
              refine AWP.region (AOPS.all (by simp (disch := first|omega|(simp only[ln];omega)) [idf_Wd', h290]; rfl) ?_)
              refine ⟨M - (i + 1), by omega, i + 1, o.set i (gt (trimW (u.take n)) i / 2 ^ k + gt (trimW (u.take n)) (i + 1) % 2 ^ k * 2 ^ (64 - k)), rfl, by omega, by simp [hol2], dO.set _ od.2.1 od.2.2, ?_, ?_, by simp [h10], by simp [h13], by simp [h28], by simp [h289], by simp (disch := omega) [h290], by simp [hzz], by simp (disch := omega) [hO], rfl⟩
              · intro x hx
                by_cases hxi : x = i
                · subst hxi; rw [gt_set (by omega)]
                · rw [gt_set_ne (by omega)]; exact hs1 x (by omega)
              · intro x hx hx2
                rw [gt_set_ne (by omega)]; exact hs2 x (by omega) hx2
          · have c1 : decide ((i : Int) + 1 < (M : Int)) = false := by simp; omega
            have c2 : True := trivial
            refine AWP.region (AOPS.all (by simp (disch := first|omega|(simp only[ln];omega)) [len_Wd (P := Try.prog) #[117] rfl elT117, idf_Wd', h28, hU, c1]; rfl) ?_)
            refine hK84 _ ?_
            refine cond_ok _ (by simp (disch := first|omega|(simp only[ln];omega)); rfl) (fun h301 => ?_) (fun h301 => ?_)
            · simp at h301
            · try simp only [decide_eq_true_eq, decide_eq_false_iff_not] at h301
              have hzz : gt (trimW (u.take n)) (i + 1) % 2 ^ k * 2 ^ (64 - k) = 0 := by rw [gt_ge (by omega), Int.zero_emod, Int.zero_mul]
              have od1 := od.1
              rw [hzz, Int.add_zero] at od1
              refine AWP.skip ?_
              refine hK83 _ ?_
              refine AWP.region (AOPS.all (by simp (disch := first|omega|(simp only[ln];omega)) [idx_WdD (P := Try.prog) elT117 szT24, if_pos, idf_Wd', h10, h28, hU, hol2, hoi, hmk.e, IntKind.bits, fdk, od1, ld_ip agT24]; rfl) ?_)
              refine hK80 _ ?_
              refine AWP.region (AOPS.all (by simp (disch := first|omega|(simp only[ln];omega)) [idf_Wd', h290]; rfl) ?_)
              refine ⟨M - (i + 1), by omega, i + 1, o.set i (gt (trimW (u.take n)) i / 2 ^ k + gt (trimW (u.take n)) (i + 1) % 2 ^ k * 2 ^ (64 - k)), rfl, by omega, by simp [hol2], dO.set _ od.2.1 od.2.2, ?_, ?_, by simp [h10], by simp [h13], by simp [h28], by simp [h289], by simp (disch := omega) [h290], by simp [hzz], by simp (disch := omega) [hO], rfl⟩
              · intro x hx
                by_cases hxi : x = i
                · subst hxi; rw [gt_set (by omega)]
                · rw [gt_set_ne (by omega)]; exact hs1 x (by omega)
              · intro x hx hx2
                rw [gt_set_ne (by omega)]; exact hs2 x (by omega) hx2
        · try simp only [decide_eq_true_eq, decide_eq_false_iff_not] at h291
          have hin : i = M := by omega
          rw [hin] at hs1
          have hrd := rest_down (a := a) (d := d) (k := k) (n := n) hk hKn.dig (by omega) f2 hltn dO (by omega) (by rw [← hM]; exact hs1)
          rw [← hM] at hrd
          have t1 : trimW out = mag ((a / d : Nat) : Int) := by rw [mag_of hKn.dout, f1]
          refine AWP.exit ?_
          refine hK76 _ ?_
          refine AWP.seqk fun K85 hK85 => ?_
          refine AWP.region ?_
          refine AOPS.runk 1 (by simp (disch := first|omega|(simp only[ln];omega)) [List.take_succ_cons, List.take_zero, idf_Wd', h13, h28]; rfl) ?_
          simp only [List.drop_succ_cons, List.drop_zero]
          refine AOPS.frz1 322 io 1 (wd .u64 out) (Wd .u64 out) (by simp (disch := omega) [hO]) (by simp [h13, ← hol]; first | exact fz_wd rfl | exact isl_take_wd (Nat.le_refl _)) ?_
          refine AOPS.fcall (trim_fc out (by omega)) rfl rfl rfl hb176 (by simp (disch := first|omega|(simp only[ln];omega)) [idf_Wd', h13, h28]) (by simp (disch := first|omega|(simp only[ln];omega)) [h13, h28]) (by simp) ?_
          simp only [puts_some, updo]
          refine AOPS.runk 1 (by simp (disch := first|omega|(simp only[ln];omega)) [List.take_succ_cons, List.take_zero, idf_Wd', h13, h28]; rfl) ?_
          simp only [List.drop_succ_cons, List.drop_zero]
          refine AOPS.frz1 324 iu 1 (wd .u64 o) (Wd .u64 (o.take M)) (by simp (disch := omega) [hU]) (by simp [h28]; exact fz_wdt (by omega)) ?_
          refine AOPS.fcall (trim_fc (o.take M) (by simp; omega)) rfl rfl rfl hb176 (by simp (disch := first|omega|(simp only[ln];omega)) [idf_Wd', h13, h28]) (by simp (disch := first|omega|(simp only[ln];omega)) [h13, h28]) (by simp) ?_
          simp only [puts_some, updo]
          refine AOPS.all (by simp (disch := first|omega|(simp only[ln];omega)) [idf_Wd', h13, h28]; rfl) ?_
          refine hK85 _ ?_
          refine AWP.ret ?_
          exact hK _ _ _ _ trivial ((Fin.mk (r := .tup [Wd .u64 (trimW out), Wd .u64 (trimW (o.take M))]) (by simp [aRes, aResL, aRes1, idf_Wd'])).cast (by rw [t1, hrd.2]))

end Go.Proofs.Ytmaebeknmiomnaa

/- Walks: the greatest common divisor. -/
namespace Go.Proofs.Ytmaebeknmiomnaa
open Go Go.RowKit
set_option linter.unusedSimpArgs false
set_option linter.unusedVariables false
set_option maxRecDepth 100000
attribute [local simp] List.getElem?_cons_zero List.getElem?_cons_succ List.getElem?_toArray runOps stepOp.eq_def agd.eq_def dstOk.eq_def opVal.eq_def opNew.eq_def opSto.eq_def ev.eq_def cv.eq_def puts_some puts_none upd_ap lst.eq_def aBin.eq_def aUn.eq_def aBi_str aBi_isl aBi_osl aBi_nsl aBi_max aBi_min aBi_max3 aConv.eq_def aLd.eq_def aLoad.eq_def aField.eq_def aFld.eq_def aIdx_isl aIdx_osl aSlc_isl aSlc_osl aSlc_str aSlc_nsl bnd.eq_def evs_nil evs_cons aBuild.eq_def aFill splice.eq_def cells_agg cells_int cells_bool cells_str cells_nil cells_nsl cells_isl cells_osl cells_ptr cells_ip cells_fn cells_Wd one_int one_bool one_str one_nil one_nsl one_isl one_osl one_ptr one_ip one_fn one_Wd aSets hupd_eq hupd_ne wrap_i64s wrap_u64s wrap_u32s wrap_u8s wd_getD wd_set wd_len wd_replicate wd_one wd_fold fz_osl hupd_same aSix.eq_def aEqS.eq_def aEqB_bool aEqB_nsl aEqB_nil
attribute [local simp] szT3 byT3 agT3 unT3 zoT3 szT4 byT4 agT4 unT4 zoT4 szT24 byT24 agT24 unT24 zoT24 szT117 byT117 agT117 elT117 unT117 zoT117 szT119 byT119 agT119 flT119 fdT119_0 fdT119_1 zoT119 szT200 byT200 agT200 elT200 unT200 zoT200

set_option maxHeartbeats 2000000 in
theorem gcd_fc {j : Nat} (zs : List Int) (hz : ∀ z ∈ zs, Bg j z) (hj : j ≤ 68719476736) (hl : zs.length ≤ 1099511627776) : FC Try.prog 87 [.isl (zs.map numC)] (numI ((gcdL zs : Nat) : Int)) := by
  refine FC.body Try.func87 rfl (by simp [idfL, idf, idfLL_iff, numC, idf_Wd']) (by simp [idfL, idf, idfLL_iff, idf_Wd', idf_numI, cells_numI, numI_fold]) 37 rfl fun nx K hK => ?_
  refine AWP.seqk fun K1 hK1 => ?_
  refine AWP.region (AOPS.all (by simp (disch := first|omega|(simp only[ln];omega)) [idf_Wd', idf_numI, cells_numI, numI_fold]; rfl) ?_)
  refine hK1 _ ?_
  refine AWP.seqk fun K2 hK2 => ?_
  refine AWP.region (AOPS.all (by simp (disch := first|omega|(simp only[ln];omega)) [idf_Wd', idf_numI, cells_numI, numI_fold]; rfl) ?_)
  refine hK2 _ ?_
  refine AWP.seqk fun K3 hK3 => ?_
  refine AWP.seqk fun K4 hK4 => ?_
  refine AWP.region (AOPS.all (by simp (disch := first|omega|(simp only[ln];omega)) [idf_Wd', idf_numI, cells_numI, numI_fold]; rfl) ?_)
  refine hK4 _ ?_
  refine AWP.block ?_
  refine AWP.loop (fun N s => ∃ (i : Nat) (X : AV), N = zs.length - i ∧ i ≤ zs.length ∧ (X = .nsl ∧ i = 0 ∨ X = Wd .u64 (mag ((gcdL (zs.take i) : Nat) : Int))) ∧ s.env 2 = .ptr nx 0 0 ∧ s.env 3 = .ptr (nx + 1) 0 0 ∧ s.env 11 = .isl (zs.map numC) ∧ s.env 12 = .int .i64 (zs.length : Int) ∧ s.env 13 = .int .i64 (i : Int) ∧ s.heap nx = some (2, [[.bool false, .nsl]]) ∧ s.heap (nx + 1) = some (2, [[.bool false, X]]) ∧ nx + 1 < s.nx ∧ s.nt = 37) (zs.length) (⟨0, .nsl, by omega, by omega, .inl ⟨rfl, rfl⟩, by simp, by simp, by simp, by simp, by simp, by simp, by simp, by simp, rfl⟩) ?_
  rintro N ⟨e, H, mm, nt⟩ ⟨i, X, rfl, hi, hX, h2, h3, h11, h12, h13, hA, hB, hm, rfl⟩
  simp only [] at h2 h3 h11 h12 h13 hA hB hm
  refine AWP.seqk fun K5 hK5 => ?_
  refine AWP.region (AOPS.all (by simp (disch := first|omega|(simp only[ln];omega)) [idf_Wd', idf_numI, cells_numI, numI_fold, h12, h13]; rfl) ?_)
  refine hK5 _ ?_
  refine AWP.seqk fun K6 hK6 => ?_
  refine cond_ok _ (by simp (disch := first|omega|(simp only[ln];omega)); rfl) (fun h14 => ?_) (fun h14 => ?_)
  · try simp only [decide_eq_true_eq, decide_eq_false_iff_not] at h14
    have hi' : i < zs.length := by omega
    have hzi : zs[i]? = some (gt zs i) := gt_some hi'
    have hmem : gt zs i ∈ zs := List.mem_of_getElem? hzi
    have bz := hz _ hmem
    have bg := gcdL_bg zs hz i
    have hmi : (zs.map numC)[i]? = some (numC (gt zs i)) := by rw [List.getElem?_map, hzi]; rfl
    refine AWP.skip ?_
    refine hK6 _ ?_
    refine AWP.seqk fun K7 hK7 => ?_
    refine AWP.block ?_
    refine AWP.seqk fun K8 hK8 => ?_
    refine AWP.region (AOPS.all (by simp (disch := first|omega|(simp only[ln];omega)) [if_pos, idf_Wd', idf_numI, cells_numI, numI_fold, h11, h13, hmi, numC, hm]; rfl) ?_)
    refine hK8 _ ?_
    refine AWP.seqk fun K9 hK9 => ?_
    have hne : nx + 1 ≠ mm := by omega
    have hne2 : mm ≠ nx + 1 := by omega
    refine AWP.drawF 4 Try.checked.mixed (by kernel_rfl) (by simp (disch := first|omega|(simp only[ln];omega)) [runDf.eq_def, runF1, runF2, stepF.eq_def, updo.eq_def, hupo.eq_def, opSto1.eq_def, idf_Wd', idf_numI, cells_numI, numI_fold, h3, hB, Nat.ne_of_lt hm, numC]; rfl) ?_
    refine hK9 _ ?_
    refine AWP.seqk fun K10 hK10 => ?_
    refine AWP.block ?_
    refine AWP.weakE 6 (Wd .u64 (mag ((gcdL (zs.take i) : Nat) : Int))) (by
      rcases hX with ⟨rfl, h0⟩ | rfl
      · simp only [upd_ap]; intro w β b v hv
        have hv' : VR w β b .nsl v := by simpa using hv
        have : mag ((gcdL (zs.take i) : Nat) : Int) = [] := by rw [h0]; exact mag_zero
        rw [this]; exact nsl_Wd .u64 hv'
      · intro w β b v hv; simpa [upd_ap] using hv) ?_
    refine AWP.loop (fun N s => ∃ x y : Nat, N = y ∧ Nat.gcd x y = Nat.gcd (gcdL (zs.take i)) (gt zs i).natAbs ∧ Bg j x ∧ Bg j y ∧ s.env 2 = .ptr nx 0 0 ∧ s.env 3 = .ptr (nx + 1) 0 0 ∧ s.env 11 = .isl (zs.map numC) ∧ s.env 12 = .int .i64 (zs.length : Int) ∧ s.env 13 = .int .i64 (i : Int) ∧ s.env 6 = Wd .u64 (mag (x : Int)) ∧ s.env 7 = Wd .u64 (mag (y : Int)) ∧ s.heap nx = some (2, [[.bool false, .nsl]]) ∧ s.heap (nx + 1) = some (2, [[.bool false, X]]) ∧ nx + 1 < s.nx ∧ s.nt = 37) ((gt zs i).natAbs) (⟨gcdL (zs.take i), (gt zs i).natAbs, rfl, rfl, bg, bz.abs, by simp [h2], by simp [h3], by simp [h11], by simp [h12], by simp [h13], by simp, by simp [mag_abs], by simp (disch := omega) [hA], by simp (disch := omega) [hB], by simp; omega, rfl⟩) ?_
    clear h2 h3 h11 h12 h13 hA hB
    rintro N ⟨e, H, mm2, nt⟩ ⟨x, y, rfl, hg, bx, bY, h2, h3, h11, h12, h13, h6, h7, hA, hB, hm2, rfl⟩
    simp only [] at h2 h3 h11 h12 h13 h6 h7 hA hB hm2
    refine AWP.seqk fun K11 hK11 => ?_
    refine AWP.seqk fun K12 hK12 => ?_
    refine AWP.region (AOPS.all (by simp (disch := first|omega|(simp only[ln];omega)) [len_Wd (P := Try.prog) #[117] rfl elT117, idf_Wd', idf_numI, cells_numI, numI_fold, h7]; rfl) ?_)
    refine hK12 _ ?_
    refine cond_ok _ (by simp (disch := first|omega|(simp only[ln];omega)); rfl) (fun h23 => ?_) (fun h23 => ?_)
    · try simp only [decide_eq_true_eq, decide_eq_false_iff_not] at h23
      have hy : N ≠ 0 := fun h => by
        subst h
        simp [mag_zero] at h23
      refine AWP.skip ?_
      refine hK11 _ ?_
      refine AWP.block ?_
      refine AWP.seqk fun K13 hK13 => ?_
      refine AWP.region ?_
      refine AOPS.runk 2 (by simp (disch := first|omega|(simp only[ln];omega)) [List.take_succ_cons, List.take_zero, idf_Wd', idf_numI, cells_numI, numI_fold, h6, h7]; rfl) ?_
      simp only [List.drop_succ_cons, List.drop_zero]
      refine AOPS.fcall (divWords_fc x N hy (Nat.le_trans bx.len hj) (Nat.le_trans bY.len hj)) rfl rfl rfl hb172 (by simp (disch := first|omega|(simp only[ln];omega)) [idf_Wd', h6, h7, idf_numI, cells_numI, numI_fold]) (by simp (disch := first|omega|(simp only[ln];omega)) [h6, h7]) (by simp) ?_
      simp only [puts_some, updo]
      refine AOPS.all (by simp (disch := first|omega|(simp only[ln];omega)) [idf_Wd', idf_numI, cells_numI, numI_fold, h6, h7]; rfl) ?_
      refine hK13 _ ?_
      refine AWP.region ?_
      refine AOPS.runk 2 (by simp (disch := first|omega|(simp only[ln];omega)) [List.take_succ_cons, List.take_zero, idf_Wd', idf_numI, cells_numI, numI_fold, h7]; rfl) ?_
      simp only [List.drop_succ_cons, List.drop_zero]
      refine AOPS.fcall (clone_fc (mag ((x % N : Nat) : Int)) (by have := (bY.mod x hy).len; omega)) rfl rfl rfl hb173 (by simp (disch := first|omega|(simp only[ln];omega)) [idf_Wd', h7, idf_numI, cells_numI, numI_fold]) (by simp (disch := first|omega|(simp only[ln];omega)) [h7]) (by simp) ?_
      simp only [puts_some, updo]
      refine AOPS.all (by simp (disch := first|omega|(simp only[ln];omega)) [idf_Wd', idf_numI, cells_numI, numI_fold, h7]; rfl) ?_
      refine ⟨x % N, Nat.mod_lt _ (by omega), N, x % N, rfl, by rw [← hg, Nat.gcd_comm N, ← Nat.gcd_rec, Nat.gcd_comm], bY, bY.mod x (by omega), by simp [h2], by simp [h3], by simp [h11], by simp [h12], by simp [h13], by simp [h7], by simp, by simp [hA], by simp [hB], by simpa using hm2, rfl⟩
    · try simp only [decide_eq_true_eq, decide_eq_false_iff_not] at h23
      have hy : N = 0 := by
        have : (mag (N : Int)).length = 0 := by omega
        rw [mag_len0] at this; omega
      subst hy
      rw [Nat.gcd_zero_right] at hg
      rw [hg] at h6
      refine AWP.exit ?_
      refine hK10 _ ?_
      refine AWP.region (AOPS.all (by simp (disch := first|omega|(simp only[ln];omega)) [idf_Wd', idf_numI, cells_numI, numI_fold, h3, h6, hB]; rfl) ?_)
      refine hK7 _ ?_
      refine AWP.region (AOPS.all (by simp (disch := first|omega|(simp only[ln];omega)) [idf_Wd', idf_numI, cells_numI, numI_fold, h13]; rfl) ?_)
      have hgz := gcdL_succ zs hi'
      refine ⟨zs.length - (i + 1), by omega, i + 1, Wd .u64 (mag ((gcdL (zs.take (i + 1)) : Nat) : Int)), rfl, by omega, .inr rfl, by simp [h2], by simp [h3], by simp [h11], by simp [h12], by simp (disch := omega) [h13], by simp (disch := omega) [hA], by simp [hgz, ← hg], by simpa using hm2, rfl⟩
  · try simp only [decide_eq_true_eq, decide_eq_false_iff_not] at h14
    have hin : i = zs.length := by omega
    refine AWP.exit ?_
    refine hK3 _ ?_
    refine AWP.seqk fun K14 hK14 => ?_
    rcases hX with ⟨rfl, h0⟩ | rfl
    · have hz0 : zs = [] := List.length_eq_zero_iff.mp (by omega)
      refine AWP.region (AOPS.all (by simp (disch := first|omega|(simp only[ln];omega)) [idf_Wd', idf_numI, cells_numI, numI_fold, h2, h3, hA, hB]; rfl) ?_)
      refine hK14 _ ?_
      refine AWP.ret ?_
      exact hK _ _ _ _ trivial ((Fin.mk (r := .agg [.bool false, .nsl]) (by simp [aRes, aResL, aRes1, h2, idf_Wd', idf_numI, cells_numI, numI_fold])).weak (by rw [hz0]; exact fun _ _ _ _ => num0_weak))
    · rw [hin, List.take_length] at hB
      refine AWP.region (AOPS.all (by simp (disch := first|omega|(simp only[ln];omega)) [idf_Wd', idf_numI, cells_numI, numI_fold, h2, h3, hA, hB]; rfl) ?_)
      refine hK14 _ ?_
      refine AWP.ret ?_
      exact hK _ _ _ _ trivial ((Fin.mk (r := .agg [.bool false, Wd .u64 (mag ((gcdL zs : Nat) : Int))]) (by simp [aRes, aResL, aRes1, h2, idf_Wd', idf_numI, cells_numI, numI_fold])).cast (by unfold numI; simp))

end Go.Proofs.Ytmaebeknmiomnaa

/- Walks: points made by the reference. -/
namespace Go.Proofs.Ytmaebeknmiomnaa
open Go Go.RowKit
set_option linter.unusedSimpArgs false
set_option linter.unusedVariables false
set_option maxRecDepth 100000
attribute [local simp] List.getElem?_cons_zero List.getElem?_cons_succ List.getElem?_toArray runOps stepOp.eq_def agd.eq_def dstOk.eq_def opVal.eq_def opNew.eq_def opSto.eq_def ev.eq_def cv.eq_def puts_some puts_none upd_ap lst.eq_def aBin.eq_def aUn.eq_def aBi_str aBi_isl aBi_osl aBi_nsl aBi_max aBi_min aBi_max3 aConv.eq_def aLd.eq_def aLoad.eq_def aField.eq_def aFld.eq_def aIdx_isl aIdx_osl aSlc_isl aSlc_osl aSlc_str aSlc_nsl bnd.eq_def evs_nil evs_cons aBuild.eq_def aFill splice.eq_def cells_agg cells_int cells_bool cells_str cells_nil cells_nsl cells_isl cells_osl cells_ptr cells_ip cells_fn cells_Wd one_int one_bool one_str one_nil one_nsl one_isl one_osl one_ptr one_ip one_fn one_Wd aSets hupd_eq hupd_ne wrap_i64s wrap_u64s wrap_u32s wrap_u8s wd_getD wd_set wd_len wd_replicate wd_one wd_fold fz_osl hupd_same aSix.eq_def aEqS.eq_def aEqB_bool aEqB_nsl aEqB_nil
attribute [local simp] szT2 byT2 agT2 unT2 zoT2 szT4 byT4 agT4 unT4 zoT4 szT24 byT24 agT24 unT24 zoT24 szT26 byT26 agT26 flT26 fdT26_0 fdT26_1 fdT26_2 fdT26_3 zoT26 szT28 byT28 agT28 flT28 fdT28_0 fdT28_1 fdT28_2 zoT28 szT67 byT67 agT67 flT67 fdT67_0 fdT67_1 zoT67 szT111 byT111 agT111 elT111 unT111 zoT111 szT113 byT113 agT113 flT113 fdT113_0 fdT113_1 zoT113 szT115 byT115 agT115 flT115 fdT115_0 fdT115_1 fdT115_2 zoT115 szT225 byT225 agT225 unT225 zoT225

set_option maxHeartbeats 2000000 in
theorem l1Div_fc {j : Nat} (a b : Int) (hb0 : b ≠ 0) (ha : Bg j a) (hb : Bg j b) (hj : j ≤ 16777216) : FC Try.prog 194 [numS a, numS b] (.tup [numS (a / b), numS (a % b)]) := by
  have hD := l1DivAbs_fc a.natAbs b.natAbs (by omega) ha.abs hb.abs hj
  rw [dg_abs, dg_abs] at hD
  have eu := eu_lem a b hb0
  generalize hq : ((a.natAbs / b.natAbs : Nat) : Int) = q0 at *
  generalize hr : ((a.natAbs % b.natAbs : Nat) : Int) = r0 at *
  have q0n : 0 ≤ q0 := by rw [← hq]; exact Int.natCast_nonneg _
  have r0n : 0 ≤ r0 := by rw [← hr]; exact Int.natCast_nonneg _
  have bq : Bg j q0 := by
    rw [← hq]; unfold Bg at *; rw [Int.natAbs_natCast]; have := Nat.div_le_self a.natAbs b.natAbs; omega
  have br : Bg j r0 := by
    rw [← hr]; unfold Bg at *; rw [Int.natAbs_natCast]; have := Nat.mod_le a.natAbs b.natAbs; omega
  have bqs : ∀ s, Bg j (sg s q0) := fun s => by cases s <;> simp only [sg_true, sg_false]; exact bq; exact bq.neg
  have brs : ∀ s, Bg j (sg s r0) := fun s => by cases s <;> simp only [sg_true, sg_false]; exact br; exact br.neg
  have lq := bq.len32
  have lr := br.len32
  have hT1 := l1Trim_fc (decide (a < 0) != decide (b < 0)) (dg q0) (by omega) (dg_dig _)
  rw [dg_val, Int.natAbs_of_nonneg q0n] at hT1
  have hT2 := l1Trim_fc (decide (a < 0)) (dg r0) (by omega) (dg_dig _)
  rw [dg_val, Int.natAbs_of_nonneg r0n] at hT2
  obtain ⟨S, hS⟩ : ∃ S, (decide (a < 0) != decide (b < 0)) = S := ⟨_, rfl⟩
  have hS2 : (decide (a < 0) == decide (b < 0)) = !S := by rw [← hS]; cases decide (a < 0) <;> cases decide (b < 0) <;> rfl
  rw [hS] at eu hT1
  refine FC.body Try.func194 rfl (by simp [idfL, idf, idfLL_iff, idf_Wd', idf_numS, cells_numS, numS_fold]) (by simp [idfL, idf, idfLL_iff, idf_Wd', idf_numS, cells_numS, numS_fold]) 47 rfl fun nx K hK => ?_
  refine AWP.seqk fun K1 hK1 => ?_
  refine AWP.region (AOPS.all (by simp (disch := first|omega|(simp only[ln];omega)) [idf_Wd', idf_numS, cells_numS, numS_fold]; rfl) ?_)
  refine hK1 _ ?_
  refine AWP.seqk fun K2 hK2 => ?_
  refine AWP.region ?_
  refine AOPS.runk 4 (by simp (disch := first|omega|(simp only[ln];omega)) [List.take_succ_cons, List.take_zero, idf_Wd', idf_numS, cells_numS, numS_fold]; rfl) ?_
  simp only [List.drop_succ_cons, List.drop_zero]
  refine AOPS.fcall (hD) rfl rfl rfl hb212 (by simp (disch := first|omega|(simp only[ln];omega)) [idf_Wd', idf_numS, cells_numS, numS_fold]) (by simp (disch := first|omega|(simp only[ln];omega))) (by simp) ?_
  simp only [puts_some, updo]
  refine AOPS.all (by simp (disch := first|omega|(simp only[ln];omega)) [idf_Wd', idf_numS, cells_numS, numS_fold]; rfl) ?_
  refine hK2 _ ?_
  refine AWP.seqk fun K3 hK3 => ?_
  refine AWP.region ?_
  refine AOPS.runk 6 (by simp (disch := first|omega|(simp only[ln];omega)) [List.take_succ_cons, List.take_zero, idf_Wd', idf_numS, cells_numS, numS_fold, hS2]; rfl) ?_
  simp only [List.drop_succ_cons, List.drop_zero]
  refine AOPS.fcall (hT1) rfl rfl rfl hb195 (by simp (disch := first|omega|(simp only[ln];omega)) [idf_Wd', hS2, idf_numS, cells_numS, numS_fold]) (by simp (disch := first|omega|(simp only[ln];omega)) [hS2]) (by simp) ?_
  simp only [puts_some, updo]
  refine AOPS.all (by simp (disch := first|omega|(simp only[ln];omega)) [idf_Wd', idf_numS, cells_numS, numS_fold, hS2]; rfl) ?_
  refine hK3 _ ?_
  refine AWP.seqk fun K4 hK4 => ?_
  refine AWP.region ?_
  refine AOPS.runk 3 (by simp (disch := first|omega|(simp only[ln];omega)) [List.take_succ_cons, List.take_zero, idf_Wd', idf_numS, cells_numS, numS_fold]; rfl) ?_
  simp only [List.drop_succ_cons, List.drop_zero]
  refine AOPS.fcall (hT2) rfl rfl rfl hb195 (by simp (disch := first|omega|(simp only[ln];omega)) [idf_Wd', idf_numS, cells_numS, numS_fold]) (by simp (disch := first|omega|(simp only[ln];omega))) (by simp) ?_
  simp only [puts_some, updo]
  refine AOPS.all (by simp (disch := first|omega|(simp only[ln];omega)) [idf_Wd', idf_numS, cells_numS, numS_fold]; rfl) ?_
  refine hK4 _ ?_
  refine AWP.seqk fun K5 hK5 => ?_
  refine AWP.seqk fun K6 hK6 => ?_
  refine AWP.region (AOPS.all (by simp (disch := first|omega|(simp only[ln];omega)) [idf_Wd', idf_numS, cells_numS, numS_fold]; rfl) ?_)
  refine hK6 _ ?_
  refine cond_ok (decide (sg (decide (a < 0)) r0 < 0)) (by simp (disch := first|omega|(simp only[ln];omega))) (fun h30 => ?_) (fun h30 => ?_)
  · try simp only [decide_eq_true_eq, decide_eq_false_iff_not] at h30
    refine AWP.seqk fun K7 hK7 => ?_
    refine AWP.region (AOPS.all (by simp (disch := first|omega|(simp only[ln];omega)) [idf_Wd', idf_numS, cells_numS, numS_fold]; rfl) ?_)
    refine hK7 _ ?_
    refine cond_ok (decide (b < 0)) (by simp (disch := first|omega|(simp only[ln];omega))) (fun h32 => ?_) (fun h32 => ?_)
    · try simp only [decide_eq_true_eq, decide_eq_false_iff_not] at h32
      have e := eu.2.1 h30 h32
      refine AWP.seqk fun K8 hK8 => ?_
      refine AWP.draw 3 Try.checked.mixed (by kernel_rfl) (by simp) ?_
      simp only [List.take_succ_cons, List.take_zero, List.drop_succ_cons, List.drop_zero]
      refine DP.runFk 1 (by simp (disch := first|omega|(simp only[ln];omega)) [runDf.eq_def, runF1, runF2, stepF.eq_def, updo.eq_def, hupo.eq_def, opSto1.eq_def, List.take_succ_cons, List.take_zero, idf_Wd', idf_numS, cells_numS, numS_fold]; rfl) fun fs9 hfs9 => ?_
      replace hfs9 : fs9.length = 1 := hfs9.trans rfl
      simp only [List.drop_succ_cons, List.drop_zero]
      refine DP.fcall (l1Int_fc 1 (by omega) (by omega)) rfl rfl rfl hb106 (by simp (disch := first|omega|(simp only[ln];omega)) [idf_Wd', idf_numS, cells_numS, numS_fold]) (by simp (disch := first|omega|(simp only[ln];omega))) (by simp) ?_
      simp only [updo]
      refine DP.fcall (l1Add_fc (bqs S) (Bg.i64 (n := 1) (by omega) (by omega)) (by omega) (by omega)) rfl rfl rfl hb104 (by simp (disch := first|omega|(simp only[ln];omega)) [idf_Wd', idf_numS, cells_numS, numS_fold]) (by simp (disch := first|omega|(simp only[ln];omega))) (by simp) ?_
      simp only [updo]
      refine DQ.runF (m := 3) (by simp only [List.length_append, List.length_cons, List.length_nil, hfs9]; omega) _ _ _ (by kernel_rfl) rfl (by simp (disch := first|omega|(simp only[ln];omega)) [runDf.eq_def, runF1, runF2, stepF.eq_def, updo.eq_def, hupo.eq_def, opSto1.eq_def, idf_Wd', idf_numS, cells_numS, numS_fold]; rfl) ?_
      refine hK8 _ ?_
      refine AWP.region ?_
      refine AOPS.runk 2 (by simp (disch := first|omega|(simp only[ln];omega)) [List.take_succ_cons, List.take_zero, idf_Wd', idf_numS, cells_numS, numS_fold]; rfl) ?_
      simp only [List.drop_succ_cons, List.drop_zero]
      refine AOPS.fcall (l1Sub_fc (brs (decide (a < 0))) hb (by omega) (by omega)) rfl rfl rfl hb202 (by simp (disch := first|omega|(simp only[ln];omega)) [idf_Wd', idf_numS, cells_numS, numS_fold]) (by simp (disch := first|omega|(simp only[ln];omega))) (by simp) ?_
      simp only [puts_some, updo]
      refine AOPS.all (by simp (disch := first|omega|(simp only[ln];omega)) [idf_Wd', idf_numS, cells_numS, numS_fold]; rfl) ?_
      refine hK5 _ ?_
      refine AWP.seqk fun K10 hK10 => ?_
      refine AWP.old fun hold => ?_
      refine AWP.draw 2 Try.checked.mixed (by kernel_rfl) (by simp) ?_
      simp only [List.take_succ_cons, List.take_zero, List.drop_succ_cons, List.drop_zero]
      refine DP.runFk 1 (by simp (disch := first|omega|(simp only[ln];omega)) [runDf.eq_def, runF1, runF2, stepF.eq_def, updo.eq_def, hupo.eq_def, opSto1.eq_def, List.take_succ_cons, List.take_zero, idf_Wd', idf_numS, cells_numS, numS_fold]; rfl) fun fs11 hfs11 => ?_
      replace hfs11 : fs11.length = 1 := hfs11.trans rfl
      simp only [List.drop_succ_cons, List.drop_zero]
      refine DP.runF1q (by simp (disch := first|omega|(simp only[ln];omega)) [runDf.eq_def, runF1, runF2, stepF.eq_def, updo.eq_def, hupo.eq_def, opSto1.eq_def, idf_Wd', idf_numS, cells_numS, numS_fold]; rfl) fun fq12 hfq12 => ?_
      simp [qids, asksB, Op.operands, topId] at hfq12
      simp only [updo]
      refine DQ.sto1 (m := 2) [1] _ (by simp (disch := first|omega|(simp only[ln];omega)) [runDf.eq_def, runF1, runF2, stepF.eq_def, updo.eq_def, hupo.eq_def, opSto1.eq_def, idf_Wd', idf_numS, cells_numS, numS_fold]; rfl) rfl (by simp only [List.length_append, List.length_cons, List.length_nil, hfs11]; omega) (by kernel_rfl) (by intro k f hk hex; simp only [List.mem_cons, List.not_mem_nil, or_false] at hex; rcases hex with rfl <;> (simp [List.getElem?_append, hfs11] at hk; subst hk; refine ⟨?_, by first | omega | (simp; done) | (simp; omega)⟩; simp [qids, asksB, Op.operands, Call.operands, topId, numS, numI, Wd, hfq12]; try omega)) ?_
      try simp only []
      refine DQ.sto1 (m := 2) [] _ (by simp (disch := first|omega|(simp only[ln];omega)) [runDf.eq_def, runF1, runF2, stepF.eq_def, updo.eq_def, hupo.eq_def, opSto1.eq_def, idf_Wd', idf_numS, cells_numS, numS_fold]; rfl) rfl (by simp only [List.length_append, List.length_cons, List.length_nil, hfs11]; omega) (by kernel_rfl) (by intro k f hk hex; simp only [List.not_mem_nil] at hex) ?_
      try simp only []
      refine hK10 _ ?_
      refine AWP.ret ?_
      exact hK _ _ _ _ trivial ((Fin.mk (by simp [aRes, aResL, aRes1, idf_Wd', idf_numS, cells_numS, numS_fold]; rfl)).cast (by rw [e.1, e.2]))
    · try simp only [decide_eq_true_eq, decide_eq_false_iff_not] at h32
      have e := eu.2.2 h30 h32
      refine AWP.seqk fun K13 hK13 => ?_
      refine AWP.draw 3 Try.checked.mixed (by kernel_rfl) (by simp) ?_
      simp only [List.take_succ_cons, List.take_zero, List.drop_succ_cons, List.drop_zero]
      refine DP.runFk 1 (by simp (disch := first|omega|(simp only[ln];omega)) [runDf.eq_def, runF1, runF2, stepF.eq_def, updo.eq_def, hupo.eq_def, opSto1.eq_def, List.take_succ_cons, List.take_zero, idf_Wd', idf_numS, cells_numS, numS_fold]; rfl) fun fs14 hfs14 => ?_
      replace hfs14 : fs14.length = 1 := hfs14.trans rfl
      simp only [List.drop_succ_cons, List.drop_zero]
      refine DP.fcall (l1Int_fc 1 (by omega) (by omega)) rfl rfl rfl hb106 (by simp (disch := first|omega|(simp only[ln];omega)) [idf_Wd', idf_numS, cells_numS, numS_fold]) (by simp (disch := first|omega|(simp only[ln];omega))) (by simp) ?_
      simp only [updo]
      refine DP.fcall (l1Sub_fc (bqs S) (Bg.i64 (n := 1) (by omega) (by omega)) (by omega) (by omega)) rfl rfl rfl hb202 (by simp (disch := first|omega|(simp only[ln];omega)) [idf_Wd', idf_numS, cells_numS, numS_fold]) (by simp (disch := first|omega|(simp only[ln];omega))) (by simp) ?_
      simp only [updo]
      refine DQ.runF (m := 3) (by simp only [List.length_append, List.length_cons, List.length_nil, hfs14]; omega) _ _ _ (by kernel_rfl) rfl (by simp (disch := first|omega|(simp only[ln];omega)) [runDf.eq_def, runF1, runF2, stepF.eq_def, updo.eq_def, hupo.eq_def, opSto1.eq_def, idf_Wd', idf_numS, cells_numS, numS_fold]; rfl) ?_
      refine hK13 _ ?_
      refine AWP.region ?_
      refine AOPS.runk 2 (by simp (disch := first|omega|(simp only[ln];omega)) [List.take_succ_cons, List.take_zero, idf_Wd', idf_numS, cells_numS, numS_fold]; rfl) ?_
      simp only [List.drop_succ_cons, List.drop_zero]
      refine AOPS.fcall (l1Add_fc (brs (decide (a < 0))) hb (by omega) (by omega)) rfl rfl rfl hb104 (by simp (disch := first|omega|(simp only[ln];omega)) [idf_Wd', idf_numS, cells_numS, numS_fold]) (by simp (disch := first|omega|(simp only[ln];omega))) (by simp) ?_
      simp only [puts_some, updo]
      refine AOPS.all (by simp (disch := first|omega|(simp only[ln];omega)) [idf_Wd', idf_numS, cells_numS, numS_fold]; rfl) ?_
      refine hK5 _ ?_
      refine AWP.seqk fun K15 hK15 => ?_
      refine AWP.old fun hold => ?_
      refine AWP.draw 2 Try.checked.mixed (by kernel_rfl) (by simp) ?_
      simp only [List.take_succ_cons, List.take_zero, List.drop_succ_cons, List.drop_zero]
      refine DP.runFk 1 (by simp (disch := first|omega|(simp only[ln];omega)) [runDf.eq_def, runF1, runF2, stepF.eq_def, updo.eq_def, hupo.eq_def, opSto1.eq_def, List.take_succ_cons, List.take_zero, idf_Wd', idf_numS, cells_numS, numS_fold]; rfl) fun fs16 hfs16 => ?_
      replace hfs16 : fs16.length = 1 := hfs16.trans rfl
      simp only [List.drop_succ_cons, List.drop_zero]
      refine DP.runF1q (by simp (disch := first|omega|(simp only[ln];omega)) [runDf.eq_def, runF1, runF2, stepF.eq_def, updo.eq_def, hupo.eq_def, opSto1.eq_def, idf_Wd', idf_numS, cells_numS, numS_fold]; rfl) fun fq17 hfq17 => ?_
      simp [qids, asksB, Op.operands, topId] at hfq17
      simp only [updo]
      refine DQ.sto1 (m := 2) [1] _ (by simp (disch := first|omega|(simp only[ln];omega)) [runDf.eq_def, runF1, runF2, stepF.eq_def, updo.eq_def, hupo.eq_def, opSto1.eq_def, idf_Wd', idf_numS, cells_numS, numS_fold]; rfl) rfl (by simp only [List.length_append, List.length_cons, List.length_nil, hfs16]; omega) (by kernel_rfl) (by intro k f hk hex; simp only [List.mem_cons, List.not_mem_nil, or_false] at hex; rcases hex with rfl <;> (simp [List.getElem?_append, hfs16] at hk; subst hk; refine ⟨?_, by first | omega | (simp; done) | (simp; omega)⟩; simp [qids, asksB, Op.operands, Call.operands, topId, numS, numI, Wd, hfq17]; try omega)) ?_
      try simp only []
      refine DQ.sto1 (m := 2) [] _ (by simp (disch := first|omega|(simp only[ln];omega)) [runDf.eq_def, runF1, runF2, stepF.eq_def, updo.eq_def, hupo.eq_def, opSto1.eq_def, idf_Wd', idf_numS, cells_numS, numS_fold]; rfl) rfl (by simp only [List.length_append, List.length_cons, List.length_nil, hfs16]; omega) (by kernel_rfl) (by intro k f hk hex; simp only [List.not_mem_nil] at hex) ?_
      try simp only []
      refine hK15 _ ?_
      refine AWP.ret ?_
      exact hK _ _ _ _ trivial ((Fin.mk (by simp [aRes, aResL, aRes1, idf_Wd', idf_numS, cells_numS, numS_fold]; rfl)).cast (by rw [e.1, e.2]))
  · try simp only [decide_eq_true_eq, decide_eq_false_iff_not] at h30
    have e := eu.1 h30
    refine AWP.skip ?_
    refine hK5 _ ?_
    refine AWP.seqk fun K18 hK18 => ?_
    refine AWP.old fun hold => ?_
    refine AWP.draw 2 Try.checked.mixed (by kernel_rfl) (by simp) ?_
    simp only [List.take_succ_cons, List.take_zero, List.drop_succ_cons, List.drop_zero]
    refine DP.runFk 1 (by simp (disch := first|omega|(simp only[ln];omega)) [runDf.eq_def, runF1, runF2, stepF.eq_def, updo.eq_def, hupo.eq_def, opSto1.eq_def, List.take_succ_cons, List.take_zero, idf_Wd', idf_numS, cells_numS, numS_fold]; rfl) fun fs19 hfs19 => ?_
    replace hfs19 : fs19.length = 1 := hfs19.trans rfl
    simp only [List.drop_succ_cons, List.drop_zero]
    refine DP.runF1q (by simp (disch := first|omega|(simp only[ln];omega)) [runDf.eq_def, runF1, runF2, stepF.eq_def, updo.eq_def, hupo.eq_def, opSto1.eq_def, idf_Wd', idf_numS, cells_numS, numS_fold]; rfl) fun fq20 hfq20 => ?_
    simp [qids, asksB, Op.operands, topId] at hfq20
    simp only [updo]
    refine DQ.sto1 (m := 2) [1] _ (by simp (disch := first|omega|(simp only[ln];omega)) [runDf.eq_def, runF1, runF2, stepF.eq_def, updo.eq_def, hupo.eq_def, opSto1.eq_def, idf_Wd', idf_numS, cells_numS, numS_fold]; rfl) rfl (by simp only [List.length_append, List.length_cons, List.length_nil, hfs19]; omega) (by kernel_rfl) (by intro k f hk hex; simp only [List.mem_cons, List.not_mem_nil, or_false] at hex; rcases hex with rfl <;> (simp [List.getElem?_append, hfs19] at hk; subst hk; refine ⟨?_, by first | omega | (simp; done) | (simp; omega)⟩; simp [qids, asksB, Op.operands, Call.operands, topId, numS, numI, Wd, hfq20]; try omega)) ?_
    try simp only []
    refine DQ.sto1 (m := 2) [] _ (by simp (disch := first|omega|(simp only[ln];omega)) [runDf.eq_def, runF1, runF2, stepF.eq_def, updo.eq_def, hupo.eq_def, opSto1.eq_def, idf_Wd', idf_numS, cells_numS, numS_fold]; rfl) rfl (by simp only [List.length_append, List.length_cons, List.length_nil, hfs19]; omega) (by kernel_rfl) (by intro k f hk hex; simp only [List.not_mem_nil] at hex) ?_
    try simp only []
    refine hK18 _ ?_
    refine AWP.ret ?_
    exact hK _ _ _ _ trivial ((Fin.mk (by simp [aRes, aResL, aRes1, idf_Wd', idf_numS, cells_numS, numS_fold]; rfl)).cast (by rw [e.1, e.2]))

set_option maxHeartbeats 2000000 in
theorem l3Make_fc {j : Nat} (x y w : Int) (hw : w ≠ 0) (bx : Bg j x) (bY : Bg j y) (bw : Bg j w) (hj0 : 1 ≤ j) (hj : j ≤ 16777216) : FC Try.prog 103 [numS x, numS y, numS w] (l3A (nrm w x / gcd3 x y w) (nrm w y / gcd3 x y w) (nrm w w / gcd3 x y w)) := by
  have hgp := gcd3_pos (x := x) (y := y) hw
  have hg3 := gcd3_nrm x y w
  refine FC.body Try.func103 rfl (by simp [idfL, idf, idfLL_iff, idf_Wd', idf_numS, cells_numS, numS_fold]) (by simp [idfL, idf, l3A, l3C, idf_Wd']) 47 rfl fun nx K hK => ?_
  refine AWP.seqk fun K1 hK1 => ?_
  refine AWP.region (AOPS.all (by simp (disch := first|omega|(simp only[ln];omega)) [idf_Wd', idf_numS, cells_numS, numS_fold]; rfl) ?_)
  refine hK1 _ ?_
  refine AWP.seqk fun K2 hK2 => ?_
  have J2 : ∀ s : St, (∃ X Y W : Int, X = nrm w x ∧ Y = nrm w y ∧ W = nrm w w ∧ s.env 3 = .ptr nx 0 0 ∧ s.env 4 = .ptr (nx + 1) 0 0 ∧ s.env 5 = .ptr (nx + 1 + 1) 0 0 ∧ s.env 6 = .ptr (nx + 1 + 1 + 1) 0 0 ∧ s.heap nx = some (2, [[.bool (decide (X < 0)), Wd .u32 (dg X)]]) ∧ s.heap (nx + 1) = some (2, [[.bool (decide (Y < 0)), Wd .u32 (dg Y)]]) ∧ s.heap (nx + 1 + 1) = some (2, [[.bool (decide (W < 0)), Wd .u32 (dg W)]]) ∧ s.heap (nx + 1 + 1 + 1) = some (6, [[.bool false, .nsl, .bool false, .nsl, .bool false, .nsl]]) ∧ nx + 1 + 1 + 1 < s.nx ∧ s.nt = 47) → K2 s := by
    rintro ⟨e, H, mm, nt⟩ ⟨X, Y, W, hX, hY, hW, h3, h4, h5, h6, hA, hB, hC, hD, hm, rfl⟩
    simp only [] at h3 h4 h5 h6 hA hB hC hD hm
    rw [← hX, ← hY, ← hW] at hg3
    have cX : Bg j X := by rw [hX]; exact bx.nrm
    have cY : Bg j Y := by rw [hY]; exact bY.nrm
    have cW : Bg j W := by rw [hW]; exact bw.nrm
    have bG1 : Bg j ((Int.gcd X Y : Nat) : Int) := Bg.gcd cX.abs cY.abs
    have bG : Bg j (gcd3 x y w) := by rw [← hg3]; exact Bg.gcd bG1 cW.abs
    have hg2 : FC Try.prog 169 [numS ((Int.gcd X Y : Nat) : Int), numS W] (numS (gcd3 x y w)) := by
      have h := l1Gcd_fc ((Int.gcd X Y : Nat) : Int) W bG1 cW hj
      have e : ((Int.gcd ((Int.gcd X Y : Nat) : Int) W : Nat) : Int) = gcd3 x y w := by rw [← hg3]; simp [Int.gcd, gcd3]
      rw [e] at h; exact h
    obtain ⟨cc, hcf, hce⟩ : ∃ c : Int, FC Try.prog 168 [numS (gcd3 x y w), numS 1] (.int .i64 c) ∧ (c == 0) = decide (gcd3 x y w = 1) := ⟨_, l1Cmp_fc bG (Bg.i64 (n := 1) (by omega) (by omega)) (by omega) (by omega), one_cmp _⟩
    generalize hgg : gcd3 x y w = g at *
    refine hK2 _ ?_
    refine AWP.seqk fun K3 hK3 => ?_
    refine AWP.draw 6 Try.checked.mixed (by kernel_rfl) (by simp) ?_
    simp only [List.take_succ_cons, List.take_zero, List.drop_succ_cons, List.drop_zero]
    refine DP.runFk 2 (by simp (disch := first|omega|(simp only[ln];omega)) [runDf.eq_def, runF1, runF2, stepF.eq_def, updo.eq_def, hupo.eq_def, opSto1.eq_def, List.take_succ_cons, List.take_zero, idf_Wd', idf_numS, cells_numS, numS_fold, h3, h4, h5, hA, hB, hC, Nat.ne_of_lt hm]; rfl) fun fs4 hfs4 => ?_
    replace hfs4 : fs4.length = 2 := hfs4.trans rfl
    simp only [List.drop_succ_cons, List.drop_zero]
    refine DP.fcall (l1Gcd_fc X Y cX cY hj) rfl rfl rfl hb169 (by simp (disch := first|omega|(simp only[ln];omega)) [idf_Wd', h3, h4, h5, hA, hB, hC, Nat.ne_of_lt hm, idf_numS, cells_numS, numS_fold]) (by simp (disch := first|omega|(simp only[ln];omega)) [h3, h4, h5, hA, hB, hC, Nat.ne_of_lt hm]) (by simp) ?_
    simp only [updo]
    refine DP.runFk 1 (by simp (disch := first|omega|(simp only[ln];omega)) [runDf.eq_def, runF1, runF2, stepF.eq_def, updo.eq_def, hupo.eq_def, opSto1.eq_def, List.take_succ_cons, List.take_zero, idf_Wd', idf_numS, cells_numS, numS_fold, h3, h4, h5, hA, hB, hC, Nat.ne_of_lt hm]; rfl) fun fs5 hfs5 => ?_
    replace hfs5 : fs5.length = 1 := hfs5.trans rfl
    simp only [List.drop_succ_cons, List.drop_zero]
    refine DP.fcall (hg2) rfl rfl rfl hb169 (by simp (disch := first|omega|(simp only[ln];omega)) [idf_Wd', h3, h4, h5, hA, hB, hC, Nat.ne_of_lt hm, idf_numS, cells_numS, numS_fold]) (by simp (disch := first|omega|(simp only[ln];omega)) [h3, h4, h5, hA, hB, hC, Nat.ne_of_lt hm]) (by simp) ?_
    simp only [updo]
    refine DP.runFk 1 (by simp (disch := first|omega|(simp only[ln];omega)) [runDf.eq_def, runF1, runF2, stepF.eq_def, updo.eq_def, hupo.eq_def, opSto1.eq_def, List.take_succ_cons, List.take_zero, idf_Wd', idf_numS, cells_numS, numS_fold, h3, h4, h5, hA, hB, hC, Nat.ne_of_lt hm]; rfl) fun fs6 hfs6 => ?_
    replace hfs6 : fs6.length = 1 := hfs6.trans rfl
    simp only [List.drop_succ_cons, List.drop_zero]
    refine DQ.runF (m := 6) (by simp only [List.length_append, List.length_cons, List.length_nil, hfs4, hfs5, hfs6]; omega) _ _ _ (by kernel_rfl) rfl (by simp (disch := first|omega|(simp only[ln];omega)) [runDf.eq_def, runF1, runF2, stepF.eq_def, updo.eq_def, hupo.eq_def, opSto1.eq_def, idf_Wd', idf_numS, cells_numS, numS_fold, h3, h4, h5, hA, hB, hC, Nat.ne_of_lt hm]; rfl) ?_
    refine hK3 _ ?_
    refine AWP.seqk fun K7 hK7 => ?_
    refine AWP.seqk fun K8 hK8 => ?_
    refine AWP.draw 4 Try.checked.mixed (by kernel_rfl) (by simp) ?_
    simp only [List.take_succ_cons, List.take_zero, List.drop_succ_cons, List.drop_zero]
    refine DP.runFk 1 (by simp (disch := first|omega|(simp only[ln];omega)) [runDf.eq_def, runF1, runF2, stepF.eq_def, updo.eq_def, hupo.eq_def, opSto1.eq_def, List.take_succ_cons, List.take_zero, idf_Wd', idf_numS, cells_numS, numS_fold]; rfl) fun fs9 hfs9 => ?_
    replace hfs9 : fs9.length = 1 := hfs9.trans rfl
    simp only [List.drop_succ_cons, List.drop_zero]
    refine DP.fcall (l1Int_fc 1 (by omega) (by omega)) rfl rfl rfl hb106 (by simp (disch := first|omega|(simp only[ln];omega)) [idf_Wd', idf_numS, cells_numS, numS_fold]) (by simp (disch := first|omega|(simp only[ln];omega))) (by simp) ?_
    simp only [updo]
    refine DP.fcall (hcf) rfl rfl rfl hb168 (by simp (disch := first|omega|(simp only[ln];omega)) [idf_Wd', idf_numS, cells_numS, numS_fold]) (by simp (disch := first|omega|(simp only[ln];omega))) (by simp) ?_
    simp only [updo]
    refine DP.runFk 1 (by simp (disch := first|omega|(simp only[ln];omega)) [runDf.eq_def, runF1, runF2, stepF.eq_def, updo.eq_def, hupo.eq_def, opSto1.eq_def, List.take_succ_cons, List.take_zero, idf_Wd', idf_numS, cells_numS, numS_fold]; rfl) fun fs10 hfs10 => ?_
    replace hfs10 : fs10.length = 1 := hfs10.trans rfl
    simp only [List.drop_succ_cons, List.drop_zero]
    refine DQ.runF (m := 4) (by simp only [List.length_append, List.length_cons, List.length_nil, hfs9, hfs10]; omega) _ _ _ (by kernel_rfl) rfl (by simp (disch := first|omega|(simp only[ln];omega)) [runDf.eq_def, runF1, runF2, stepF.eq_def, updo.eq_def, hupo.eq_def, opSto1.eq_def, idf_Wd', idf_numS, cells_numS, numS_fold]; rfl) ?_
    refine hK8 _ ?_
    refine cond_ok (!decide (g = 1)) (by simp (disch := first|omega|(simp only[ln];omega)) [bne, hce]) (fun h24 => ?_) (fun h24 => ?_)
    · try simp only [decide_eq_true_eq, decide_eq_false_iff_not] at h24
      refine AWP.seqk fun K11 hK11 => ?_
      refine AWP.region ?_
      refine AOPS.runk 2 (by simp (disch := first|omega|(simp only[ln];omega)) [List.take_succ_cons, List.take_zero, idf_Wd', idf_numS, cells_numS, numS_fold, h3, hA]; rfl) ?_
      simp only [List.drop_succ_cons, List.drop_zero]
      refine AOPS.fcall (l1Div_fc X g (by omega) cX bG hj) rfl rfl rfl hb194 (by simp (disch := first|omega|(simp only[ln];omega)) [idf_Wd', h3, hA, idf_numS, cells_numS, numS_fold]) (by simp (disch := first|omega|(simp only[ln];omega)) [h3, hA]) (by simp) ?_
      simp only [puts_some, updo]
      refine AOPS.all (by simp (disch := first|omega|(simp only[ln];omega)) [idf_Wd', idf_numS, cells_numS, numS_fold, h3, hA]; rfl) ?_
      refine hK11 _ ?_
      refine AWP.seqk fun K12 hK12 => ?_
      refine AWP.region ?_
      refine AOPS.runk 2 (by simp (disch := first|omega|(simp only[ln];omega)) [List.take_succ_cons, List.take_zero, idf_Wd', idf_numS, cells_numS, numS_fold, h4, hB]; rfl) ?_
      simp only [List.drop_succ_cons, List.drop_zero]
      refine AOPS.fcall (l1Div_fc Y g (by omega) cY bG hj) rfl rfl rfl hb194 (by simp (disch := first|omega|(simp only[ln];omega)) [idf_Wd', h4, hB, idf_numS, cells_numS, numS_fold]) (by simp (disch := first|omega|(simp only[ln];omega)) [h4, hB]) (by simp) ?_
      simp only [puts_some, updo]
      refine AOPS.all (by simp (disch := first|omega|(simp only[ln];omega)) [idf_Wd', idf_numS, cells_numS, numS_fold, h4, hB]; rfl) ?_
      refine hK12 _ ?_
      refine AWP.region ?_
      refine AOPS.runk 2 (by simp (disch := first|omega|(simp only[ln];omega)) [List.take_succ_cons, List.take_zero, idf_Wd', idf_numS, cells_numS, numS_fold, h5, hC]; rfl) ?_
      simp only [List.drop_succ_cons, List.drop_zero]
      refine AOPS.fcall (l1Div_fc W g (by omega) cW bG hj) rfl rfl rfl hb194 (by simp (disch := first|omega|(simp only[ln];omega)) [idf_Wd', h5, hC, idf_numS, cells_numS, numS_fold]) (by simp (disch := first|omega|(simp only[ln];omega)) [h5, hC]) (by simp) ?_
      simp only [puts_some, updo]
      refine AOPS.all (by simp (disch := first|omega|(simp only[ln];omega)) [idf_Wd', idf_numS, cells_numS, numS_fold, h5, hC]; rfl) ?_
      refine hK7 _ ?_
      refine AWP.seqk fun K13 hK13 => ?_
      refine AWP.region (AOPS.all (by simp (disch := first|omega|(simp only[ln];omega)) [idf_Wd', idf_numS, cells_numS, numS_fold, h3, h4, h5, h6, hD]; rfl) ?_)
      refine hK13 _ ?_
      refine AWP.ret ?_
      exact hK _ _ _ _ trivial ((Fin.mk (by simp (disch := omega) [aRes, aResL, aRes1, h6, idf_Wd', idf_numS, cells_numS, numS_fold]; rfl)).cast (by rw [← hX, ← hY, ← hW]; first | done | rfl))
    · try simp only [decide_eq_true_eq, decide_eq_false_iff_not] at h24
      have hg1 : g = 1 := by simpa using h24
      refine AWP.skip ?_
      refine hK7 _ ?_
      refine AWP.seqk fun K14 hK14 => ?_
      refine AWP.region (AOPS.all (by simp (disch := first|omega|(simp only[ln];omega)) [idf_Wd', idf_numS, cells_numS, numS_fold, h3, h4, h5, h6, hA, hB, hC, hD]; rfl) ?_)
      refine hK14 _ ?_
      refine AWP.ret ?_
      exact hK _ _ _ _ trivial ((Fin.mk (by simp (disch := omega) [aRes, aResL, aRes1, h6, idf_Wd', idf_numS, cells_numS, numS_fold]; rfl)).cast (by rw [← hX, ← hY, ← hW, hg1, Int.ediv_one, Int.ediv_one, Int.ediv_one]; first | done | rfl))
  refine AWP.seqk fun K15 hK15 => ?_
  refine AWP.region (AOPS.all (by simp (disch := first|omega|(simp only[ln];omega)) [idf_Wd', idf_numS, cells_numS, numS_fold]; rfl) ?_)
  refine hK15 _ ?_
  refine cond_ok (decide (w < 0)) (by simp (disch := first|omega|(simp only[ln];omega))) (fun h9 => ?_) (fun h9 => ?_)
  · try simp only [decide_eq_true_eq, decide_eq_false_iff_not] at h9
    refine AWP.old fun hold => ?_
    refine AWP.draw 6 Try.checked.mixed (by kernel_rfl) (by simp) ?_
    simp only [List.take_succ_cons, List.take_zero, List.drop_succ_cons, List.drop_zero]
    refine DP.runFk 1 (by simp (disch := first|omega|(simp only[ln];omega)) [runDf.eq_def, runF1, runF2, stepF.eq_def, updo.eq_def, hupo.eq_def, opSto1.eq_def, List.take_succ_cons, List.take_zero, idf_Wd', idf_numS, cells_numS, numS_fold]; rfl) fun fs16 hfs16 => ?_
    replace hfs16 : fs16.length = 1 := hfs16.trans rfl
    simp only [List.drop_succ_cons, List.drop_zero]
    refine DP.fcall (l1Neg_fc x) rfl rfl rfl hb193 (by simp (disch := first|omega|(simp only[ln];omega)) [idf_Wd', idf_numS, cells_numS, numS_fold]) (by simp (disch := first|omega|(simp only[ln];omega))) (by simp) ?_
    simp only [updo]
    refine DP.runF1q (by simp (disch := first|omega|(simp only[ln];omega)) [runDf.eq_def, runF1, runF2, stepF.eq_def, updo.eq_def, hupo.eq_def, opSto1.eq_def, idf_Wd', idf_numS, cells_numS, numS_fold]; rfl) fun fq17 hfq17 => ?_
    simp [qids, asksB, Op.operands, topId] at hfq17
    simp only [updo]
    refine DP.fcall (l1Neg_fc y) rfl rfl rfl hb193 (by simp (disch := first|omega|(simp only[ln];omega)) [idf_Wd', idf_numS, cells_numS, numS_fold]) (by simp (disch := first|omega|(simp only[ln];omega))) (by simp) ?_
    simp only [updo]
    refine DP.runF1q (by simp (disch := first|omega|(simp only[ln];omega)) [runDf.eq_def, runF1, runF2, stepF.eq_def, updo.eq_def, hupo.eq_def, opSto1.eq_def, idf_Wd', idf_numS, cells_numS, numS_fold]; rfl) fun fq18 hfq18 => ?_
    simp [qids, asksB, Op.operands, topId] at hfq18
    simp only [updo]
    refine DP.fcall (l1Neg_fc w) rfl rfl rfl hb193 (by simp (disch := first|omega|(simp only[ln];omega)) [idf_Wd', idf_numS, cells_numS, numS_fold]) (by simp (disch := first|omega|(simp only[ln];omega))) (by simp) ?_
    simp only [updo]
    refine DQ.sto1 (m := 6) [2, 3, 4] _ (by simp (disch := first|omega|(simp only[ln];omega)) [runDf.eq_def, runF1, runF2, stepF.eq_def, updo.eq_def, hupo.eq_def, opSto1.eq_def, idf_Wd', idf_numS, cells_numS, numS_fold]; rfl) rfl (by simp only [List.length_append, List.length_cons, List.length_nil, hfs16]; omega) (by kernel_rfl) (by intro k f hk hex; simp only [List.mem_cons, List.not_mem_nil, or_false] at hex; rcases hex with rfl | rfl | rfl <;> (simp [List.getElem?_append, hfs16] at hk; subst hk; refine ⟨?_, by first | omega | (simp; done) | (simp; omega)⟩; simp [qids, asksB, Op.operands, Call.operands, topId, numS, numI, Wd, hfq17, hfq18]; try omega)) ?_
    try simp only []
    refine DQ.sto1 (m := 6) [4, 5] _ (by simp (disch := first|omega|(simp only[ln];omega)) [runDf.eq_def, runF1, runF2, stepF.eq_def, updo.eq_def, hupo.eq_def, opSto1.eq_def, idf_Wd', idf_numS, cells_numS, numS_fold]; rfl) rfl (by simp only [List.length_append, List.length_cons, List.length_nil, hfs16]; omega) (by kernel_rfl) (by intro k f hk hex; simp only [List.mem_cons, List.not_mem_nil, or_false] at hex; rcases hex with rfl | rfl <;> (simp [List.getElem?_append, hfs16] at hk; subst hk; refine ⟨?_, by first | omega | (simp; done) | (simp; omega)⟩; simp [qids, asksB, Op.operands, Call.operands, topId, numS, numI, Wd, hfq17, hfq18]; try omega)) ?_
    try simp only []
    refine DQ.sto1 (m := 6) [] _ (by simp (disch := first|omega|(simp only[ln];omega)) [runDf.eq_def, runF1, runF2, stepF.eq_def, updo.eq_def, hupo.eq_def, opSto1.eq_def, idf_Wd', idf_numS, cells_numS, numS_fold]; rfl) rfl (by simp only [List.length_append, List.length_cons, List.length_nil, hfs16]; omega) (by kernel_rfl) (by intro k f hk hex; simp only [List.not_mem_nil] at hex) ?_
    try simp only []
    refine J2 _ ?_
    exact ⟨-x, -y, -w, by simp [nrm, h9], by simp [nrm, h9], by simp [nrm, h9], by simp, by simp, by simp, by simp, by simp (disch := omega), by simp (disch := omega), by simp (disch := omega), by simp (disch := omega), by simp, rfl⟩
  · try simp only [decide_eq_true_eq, decide_eq_false_iff_not] at h9
    refine AWP.skip ?_
    refine J2 _ ?_
    exact ⟨x, y, w, by simp [nrm, h9], by simp [nrm, h9], by simp [nrm, h9], by simp, by simp, by simp, by simp, by simp (disch := omega), by simp (disch := omega), by simp (disch := omega), by simp (disch := omega), by simp, rfl⟩

theorem l3Spot_fc (x y : Int) (hx1 : -9223372036854775808 ≤ x) (hx2 : x ≤ 9223372036854775807) (hy1 : -9223372036854775808 ≤ y) (hy2 : y ≤ 9223372036854775807) : FC Try.prog 123 [.agg [.int .i64 x, .int .i64 y]] (l3A x y 1) := by
  refine FC.body Try.func123 rfl (by simp [idfL, idf, idfLL_iff, idf_Wd', idf_numS, cells_numS, numS_fold]) (by simp [idfL, idf, l3A, l3C, idf_Wd']) 11 rfl fun nx K hK => ?_
  refine AWP.seqk fun K1 hK1 => ?_
  refine AWP.region (AOPS.all (by simp (disch := first|omega|(simp only[ln];omega)) [idf_Wd', idf_numS, cells_numS, numS_fold]; rfl) ?_)
  refine hK1 _ ?_
  refine AWP.seqk fun K2 hK2 => ?_
  refine AWP.draw 8 Try.checked.mixed (by kernel_rfl) (by simp) ?_
  simp only [List.take_succ_cons, List.take_zero, List.drop_succ_cons, List.drop_zero]
  refine DP.runFk 2 (by simp (disch := first|omega|(simp only[ln];omega)) [runDf.eq_def, runF1, runF2, stepF.eq_def, updo.eq_def, hupo.eq_def, opSto1.eq_def, List.take_succ_cons, List.take_zero, idf_Wd', idf_numS, cells_numS, numS_fold]; rfl) fun fs3 hfs3 => ?_
  replace hfs3 : fs3.length = 2 := hfs3.trans rfl
  simp only [List.drop_succ_cons, List.drop_zero]
  refine DP.fcall (l1Int_fc x hx1 hx2) rfl rfl rfl hb106 (by simp (disch := first|omega|(simp only[ln];omega)) [idf_Wd', idf_numS, cells_numS, numS_fold]) (by simp (disch := first|omega|(simp only[ln];omega))) (by simp) ?_
  simp only [updo]
  refine DP.runFk 2 (by simp (disch := first|omega|(simp only[ln];omega)) [runDf.eq_def, runF1, runF2, stepF.eq_def, updo.eq_def, hupo.eq_def, opSto1.eq_def, List.take_succ_cons, List.take_zero, idf_Wd', idf_numS, cells_numS, numS_fold]; rfl) fun fs4 hfs4 => ?_
  replace hfs4 : fs4.length = 2 := hfs4.trans rfl
  simp only [List.drop_succ_cons, List.drop_zero]
  refine DP.fcall (l1Int_fc y hy1 hy2) rfl rfl rfl hb106 (by simp (disch := first|omega|(simp only[ln];omega)) [idf_Wd', idf_numS, cells_numS, numS_fold]) (by simp (disch := first|omega|(simp only[ln];omega))) (by simp) ?_
  simp only [updo]
  refine DP.fcall (l1Int_fc 1 (by omega) (by omega)) rfl rfl rfl hb106 (by simp (disch := first|omega|(simp only[ln];omega)) [idf_Wd', idf_numS, cells_numS, numS_fold]) (by simp (disch := first|omega|(simp only[ln];omega))) (by simp) ?_
  simp only [updo]
  refine DP.runFk 1 (by simp (disch := first|omega|(simp only[ln];omega)) [runDf.eq_def, runF1, runF2, stepF.eq_def, updo.eq_def, hupo.eq_def, opSto1.eq_def, List.take_succ_cons, List.take_zero, idf_Wd', idf_numS, cells_numS, numS_fold]; rfl) fun fs5 hfs5 => ?_
  replace hfs5 : fs5.length = 1 := hfs5.trans rfl
  simp only [List.drop_succ_cons, List.drop_zero]
  refine DQ.runF (m := 8) (by simp only [List.length_append, List.length_cons, List.length_nil, hfs3, hfs4, hfs5]; omega) _ _ _ (by kernel_rfl) rfl (by simp (disch := first|omega|(simp only[ln];omega)) [runDf.eq_def, runF1, runF2, stepF.eq_def, updo.eq_def, hupo.eq_def, opSto1.eq_def, idf_Wd', idf_numS, cells_numS, numS_fold]; rfl) ?_
  refine hK2 _ ?_
  refine AWP.ret ?_
  exact hK _ _ _ _ trivial ((Fin.mk (by simp [aRes, aResL, aRes1, idf_Wd', idf_numS, cells_numS, numS_fold]; rfl)).cast (by rfl))

end Go.Proofs.Ytmaebeknmiomnaa

/- Walks: fractions of the program. -/
namespace Go.Proofs.Ytmaebeknmiomnaa
open Go Go.RowKit
set_option linter.unusedSimpArgs false
set_option linter.unusedVariables false
set_option maxRecDepth 100000
attribute [local simp] List.getElem?_cons_zero List.getElem?_cons_succ List.getElem?_toArray runOps stepOp.eq_def agd.eq_def dstOk.eq_def opVal.eq_def opNew.eq_def opSto.eq_def ev.eq_def cv.eq_def puts_some puts_none upd_ap lst.eq_def aBin.eq_def aUn.eq_def aBi_str aBi_isl aBi_osl aBi_nsl aBi_max aBi_min aBi_max3 aConv.eq_def aLd.eq_def aLoad.eq_def aField.eq_def aFld.eq_def aIdx_isl aIdx_osl aSlc_isl aSlc_osl aSlc_str aSlc_nsl bnd.eq_def evs_nil evs_cons aBuild.eq_def aFill splice.eq_def cells_agg cells_int cells_bool cells_str cells_nil cells_nsl cells_isl cells_osl cells_ptr cells_ip cells_fn cells_Wd one_int one_bool one_str one_nil one_nsl one_isl one_osl one_ptr one_ip one_fn one_Wd aSets hupd_eq hupd_ne wrap_i64s wrap_u64s wrap_u32s wrap_u8s wd_getD wd_set wd_len wd_replicate wd_one wd_fold fz_osl hupd_same aSix.eq_def aEqS.eq_def aEqB_bool aEqB_nsl aEqB_nil
attribute [local simp] szT2 byT2 agT2 unT2 zoT2 szT4 byT4 agT4 unT4 zoT4 szT24 byT24 agT24 unT24 zoT24 szT26 byT26 agT26 flT26 fdT26_0 fdT26_1 fdT26_2 fdT26_3 zoT26 szT51 byT51 agT51 flT51 fdT51_0 fdT51_1 zoT51 szT117 byT117 agT117 elT117 unT117 zoT117 szT119 byT119 agT119 flT119 fdT119_0 fdT119_1 zoT119 szT143 byT143 agT143 flT143 fdT143_0 fdT143_1 zoT143 szT200 byT200 agT200 elT200 unT200 zoT200

set_option maxHeartbeats 2000000 in
theorem over_fc {j : Nat} (a b : Int) (hb0 : b ≠ 0) (ha : Bg j a) (hb : Bg j b) (hj : j ≤ 16777216) : FC Try.prog 180 [numI a, numI b] (.tup [numI (a / b), numI (a % b)]) := by
  have hD := divWords_fc a.natAbs b.natAbs (by omega) (by have := ha.len; rw [mag_abs]; omega) (by have := hb.len; rw [mag_abs]; omega)
  rw [mag_abs, mag_abs] at hD
  have eu := eu_lem a b hb0
  generalize hq : ((a.natAbs / b.natAbs : Nat) : Int) = q0 at *
  generalize hr : ((a.natAbs % b.natAbs : Nat) : Int) = r0 at *
  have q0n : 0 ≤ q0 := by rw [← hq]; exact Int.natCast_nonneg _
  have r0n : 0 ≤ r0 := by rw [← hr]; exact Int.natCast_nonneg _
  have bq : Bg j q0 := by
    rw [← hq]; unfold Bg at *; rw [Int.natAbs_natCast]; have := Nat.div_le_self a.natAbs b.natAbs; omega
  have br : Bg j r0 := by
    rw [← hr]; unfold Bg at *; rw [Int.natAbs_natCast]; have := Nat.mod_le a.natAbs b.natAbs; omega
  have bqs : ∀ s, Bg j (sg s q0) := fun s => by cases s <;> simp only [sg_true, sg_false]; exact bq; exact bq.neg
  have brs : ∀ s, Bg j (sg s r0) := fun s => by cases s <;> simp only [sg_true, sg_false]; exact br; exact br.neg
  have lq := bq.len
  have lr := br.len
  have hT1 := made_fc (decide (a < 0) != decide (b < 0)) (mag q0) (by omega) (mag_dig _)
  rw [mag_val, Int.natAbs_of_nonneg q0n] at hT1
  have hT2 := made_fc (decide (a < 0)) (mag r0) (by omega) (mag_dig _)
  rw [mag_val, Int.natAbs_of_nonneg r0n] at hT2
  obtain ⟨S, hS⟩ : ∃ S, (decide (a < 0) != decide (b < 0)) = S := ⟨_, rfl⟩
  have hS2 : (decide (a < 0) == decide (b < 0)) = !S := by rw [← hS]; cases decide (a < 0) <;> cases decide (b < 0) <;> rfl
  rw [hS] at eu hT1
  refine FC.body Try.func180 rfl (by simp [idfL, idf, idfLL_iff, idf_Wd', idf_numI, cells_numI, numI_fold]) (by simp [idfL, idf, idfLL_iff, idf_Wd', idf_numI, cells_numI, numI_fold]) 45 rfl fun nx K hK => ?_
  refine AWP.seqk fun K1 hK1 => ?_
  refine AWP.region (AOPS.all (by simp (disch := first|omega|(simp only[ln];omega)) [idf_Wd', idf_numI, cells_numI, numI_fold]; rfl) ?_)
  refine hK1 _ ?_
  refine AWP.seqk fun K2 hK2 => ?_
  refine AWP.region ?_
  refine AOPS.runk 4 (by simp (disch := first|omega|(simp only[ln];omega)) [List.take_succ_cons, List.take_zero, idf_Wd', idf_numI, cells_numI, numI_fold]; rfl) ?_
  simp only [List.drop_succ_cons, List.drop_zero]
  refine AOPS.fcall (hD) rfl rfl rfl hb172 (by simp (disch := first|omega|(simp only[ln];omega)) [idf_Wd', idf_numI, cells_numI, numI_fold]) (by simp (disch := first|omega|(simp only[ln];omega))) (by simp) ?_
  simp only [puts_some, updo]
  refine AOPS.all (by simp (disch := first|omega|(simp only[ln];omega)) [idf_Wd', idf_numI, cells_numI, numI_fold]; rfl) ?_
  refine hK2 _ ?_
  refine AWP.seqk fun K3 hK3 => ?_
  refine AWP.old fun hold => ?_
  refine AWP.draw 13 Try.checked.mixed (by kernel_rfl) (by simp) ?_
  simp only [List.take_succ_cons, List.take_zero, List.drop_succ_cons, List.drop_zero]
  refine DP.runFk 6 (by simp (disch := first|omega|(simp only[ln];omega)) [runDf.eq_def, runF1, runF2, stepF.eq_def, updo.eq_def, hupo.eq_def, opSto1.eq_def, List.take_succ_cons, List.take_zero, idf_Wd', idf_numI, cells_numI, numI_fold, hS2]; rfl) fun fs4 hfs4 => ?_
  replace hfs4 : fs4.length = 6 := hfs4.trans rfl
  simp only [List.drop_succ_cons, List.drop_zero]
  refine DP.fcall (hT1) rfl rfl rfl hb174 (by simp (disch := first|omega|(simp only[ln];omega)) [idf_Wd', hS2, idf_numI, cells_numI, numI_fold]) (by simp (disch := first|omega|(simp only[ln];omega)) [hS2]) (by simp) ?_
  simp only [updo]
  refine DP.runF1q (by simp (disch := first|omega|(simp only[ln];omega)) [runDf.eq_def, runF1, runF2, stepF.eq_def, updo.eq_def, hupo.eq_def, opSto1.eq_def, idf_Wd', idf_numI, cells_numI, numI_fold, hS2]; rfl) fun fq5 hfq5 => ?_
  simp [qids, asksB, Op.operands, topId] at hfq5
  simp only [updo]
  refine DP.runF1q (by simp (disch := first|omega|(simp only[ln];omega)) [runDf.eq_def, runF1, runF2, stepF.eq_def, updo.eq_def, hupo.eq_def, opSto1.eq_def, idf_Wd', idf_numI, cells_numI, numI_fold, hS2]; rfl) fun fq6 hfq6 => ?_
  simp [qids, asksB, Op.operands, topId] at hfq6
  simp only [updo]
  refine DP.runF1q (by simp (disch := first|omega|(simp only[ln];omega)) [runDf.eq_def, runF1, runF2, stepF.eq_def, updo.eq_def, hupo.eq_def, opSto1.eq_def, idf_Wd', idf_numI, cells_numI, numI_fold, hS2]; rfl) fun fq7 hfq7 => ?_
  simp [qids, asksB, Op.operands, topId] at hfq7
  simp only [updo]
  refine DP.fcall (hT2) rfl rfl rfl hb174 (by simp (disch := first|omega|(simp only[ln];omega)) [idf_Wd', hS2, idf_numI, cells_numI, numI_fold]) (by simp (disch := first|omega|(simp only[ln];omega)) [hS2]) (by simp) ?_
  simp only [updo]
  refine DP.runFk 2 (by simp (disch := first|omega|(simp only[ln];omega)) [runDf.eq_def, runF1, runF2, stepF.eq_def, updo.eq_def, hupo.eq_def, opSto1.eq_def, List.take_succ_cons, List.take_zero, idf_Wd', idf_numI, cells_numI, numI_fold, hS2]; rfl) fun fs8 hfs8 => ?_
  replace hfs8 : fs8.length = 2 := hfs8.trans rfl
  simp only [List.drop_succ_cons, List.drop_zero]
  refine DQ.sto1 (m := 13) [7, 8, 9] _ (by simp (disch := first|omega|(simp only[ln];omega)) [runDf.eq_def, runF1, runF2, stepF.eq_def, updo.eq_def, hupo.eq_def, opSto1.eq_def, idf_Wd', idf_numI, cells_numI, numI_fold, hS2]; rfl) rfl (by simp only [List.length_append, List.length_cons, List.length_nil, hfs4, hfs8]; omega) (by kernel_rfl) (by intro k f hk hex; simp only [List.mem_cons, List.not_mem_nil, or_false] at hex; rcases hex with rfl | rfl | rfl <;> (simp [List.getElem?_append, hfs4, hfs8] at hk; subst hk; refine ⟨?_, by first | omega | (simp; done) | (simp; omega)⟩; simp [qids, asksB, Op.operands, Call.operands, topId, numS, numI, Wd, hfq5, hfq6, hfq7]; try omega)) ?_
  try simp only []
  refine DQ.sto1 (m := 13) [] _ (by simp (disch := first|omega|(simp only[ln];omega)) [runDf.eq_def, runF1, runF2, stepF.eq_def, updo.eq_def, hupo.eq_def, opSto1.eq_def, idf_Wd', idf_numI, cells_numI, numI_fold, hS2]; rfl) rfl (by simp only [List.length_append, List.length_cons, List.length_nil, hfs4, hfs8]; omega) (by kernel_rfl) (by intro k f hk hex; simp only [List.not_mem_nil] at hex) ?_
  try simp only []
  refine hK3 _ ?_
  refine AWP.seqk fun K9 hK9 => ?_
  refine AWP.seqk fun K10 hK10 => ?_
  refine AWP.region (AOPS.all (by simp (disch := first|omega|(simp only[ln];omega)) [idf_Wd', idf_numI, cells_numI, numI_fold]; rfl) ?_)
  refine hK10 _ ?_
  refine cond_ok (decide (sg (decide (a < 0)) r0 < 0)) (by simp (disch := first|omega|(simp only[ln];omega))) (fun h30 => ?_) (fun h30 => ?_)
  · try simp only [decide_eq_true_eq, decide_eq_false_iff_not] at h30
    refine AWP.seqk fun K11 hK11 => ?_
    refine AWP.draw 4 Try.checked.mixed (by kernel_rfl) (by simp) ?_
    simp only [List.take_succ_cons, List.take_zero, List.drop_succ_cons, List.drop_zero]
    refine DP.runFk 2 (by simp (disch := first|omega|(simp only[ln];omega)) [runDf.eq_def, runF1, runF2, stepF.eq_def, updo.eq_def, hupo.eq_def, opSto1.eq_def, List.take_succ_cons, List.take_zero, idf_Wd', idf_numI, cells_numI, numI_fold]; rfl) fun fs12 hfs12 => ?_
    replace hfs12 : fs12.length = 2 := hfs12.trans rfl
    simp only [List.drop_succ_cons, List.drop_zero]
    refine DP.fcall (abs_fc b) rfl rfl rfl hb217 (by simp (disch := first|omega|(simp only[ln];omega)) [idf_Wd', idf_numI, cells_numI, numI_fold]) (by simp (disch := first|omega|(simp only[ln];omega))) (by simp) ?_
    simp only [updo]
    refine DP.fcall (plus_fc (brs (decide (a < 0))) hb.abs (by omega) (by omega)) rfl rfl rfl hb101 (by simp (disch := first|omega|(simp only[ln];omega)) [idf_Wd', idf_numI, cells_numI, numI_fold]) (by simp (disch := first|omega|(simp only[ln];omega))) (by simp) ?_
    simp only [updo]
    refine DQ.runF (m := 4) (by simp only [List.length_append, List.length_cons, List.length_nil, hfs12]; omega) _ _ _ (by kernel_rfl) rfl (by simp (disch := first|omega|(simp only[ln];omega)) [runDf.eq_def, runF1, runF2, stepF.eq_def, updo.eq_def, hupo.eq_def, opSto1.eq_def, idf_Wd', idf_numI, cells_numI, numI_fold]; rfl) ?_
    refine hK11 _ ?_
    refine AWP.seqk fun K13 hK13 => ?_
    refine AWP.region (AOPS.all (by simp (disch := first|omega|(simp only[ln];omega)) [idf_Wd', idf_numI, cells_numI, numI_fold]; rfl) ?_)
    refine hK13 _ ?_
    refine cond_ok (decide (b < 0)) (by simp (disch := first|omega|(simp only[ln];omega))) (fun h36 => ?_) (fun h36 => ?_)
    · try simp only [decide_eq_true_eq, decide_eq_false_iff_not] at h36
      have e := eu.2.1 h30 h36
      refine AWP.draw 3 Try.checked.mixed (by kernel_rfl) (by simp) ?_
      simp only [List.take_succ_cons, List.take_zero, List.drop_succ_cons, List.drop_zero]
      refine DP.runFk 1 (by simp (disch := first|omega|(simp only[ln];omega)) [runDf.eq_def, runF1, runF2, stepF.eq_def, updo.eq_def, hupo.eq_def, opSto1.eq_def, List.take_succ_cons, List.take_zero, idf_Wd', idf_numI, cells_numI, numI_fold]; rfl) fun fs14 hfs14 => ?_
      replace hfs14 : fs14.length = 1 := hfs14.trans rfl
      simp only [List.drop_succ_cons, List.drop_zero]
      refine DP.fcall (whole_fc 1 (by omega) (by omega)) rfl rfl rfl hb89 (by simp (disch := first|omega|(simp only[ln];omega)) [idf_Wd', idf_numI, cells_numI, numI_fold]) (by simp (disch := first|omega|(simp only[ln];omega))) (by simp) ?_
      simp only [updo]
      refine DP.fcall (plus_fc (bqs S) (Bg.i64 (n := 1) (by omega) (by omega)) (by omega) (by omega)) rfl rfl rfl hb101 (by simp (disch := first|omega|(simp only[ln];omega)) [idf_Wd', idf_numI, cells_numI, numI_fold]) (by simp (disch := first|omega|(simp only[ln];omega))) (by simp) ?_
      simp only [updo]
      refine DQ.runF (m := 3) (by simp only [List.length_append, List.length_cons, List.length_nil, hfs14]; omega) _ _ _ (by kernel_rfl) rfl (by simp (disch := first|omega|(simp only[ln];omega)) [runDf.eq_def, runF1, runF2, stepF.eq_def, updo.eq_def, hupo.eq_def, opSto1.eq_def, idf_Wd', idf_numI, cells_numI, numI_fold]; rfl) ?_
      refine hK9 _ ?_
      refine AWP.seqk fun K15 hK15 => ?_
      refine AWP.old fun hold => ?_
      refine AWP.draw 2 Try.checked.mixed (by kernel_rfl) (by simp) ?_
      simp only [List.take_succ_cons, List.take_zero, List.drop_succ_cons, List.drop_zero]
      refine DP.runFk 1 (by simp (disch := first|omega|(simp only[ln];omega)) [runDf.eq_def, runF1, runF2, stepF.eq_def, updo.eq_def, hupo.eq_def, opSto1.eq_def, List.take_succ_cons, List.take_zero, idf_Wd', idf_numI, cells_numI, numI_fold]; rfl) fun fs16 hfs16 => ?_
      replace hfs16 : fs16.length = 1 := hfs16.trans rfl
      simp only [List.drop_succ_cons, List.drop_zero]
      refine DP.runF1q (by simp (disch := first|omega|(simp only[ln];omega)) [runDf.eq_def, runF1, runF2, stepF.eq_def, updo.eq_def, hupo.eq_def, opSto1.eq_def, idf_Wd', idf_numI, cells_numI, numI_fold]; rfl) fun fq17 hfq17 => ?_
      simp [qids, asksB, Op.operands, topId] at hfq17
      simp only [updo]
      refine DQ.sto1 (m := 2) [1] _ (by simp (disch := first|omega|(simp only[ln];omega)) [runDf.eq_def, runF1, runF2, stepF.eq_def, updo.eq_def, hupo.eq_def, opSto1.eq_def, idf_Wd', idf_numI, cells_numI, numI_fold]; rfl) rfl (by simp only [List.length_append, List.length_cons, List.length_nil, hfs16]; omega) (by kernel_rfl) (by intro k f hk hex; simp only [List.mem_cons, List.not_mem_nil, or_false] at hex; rcases hex with rfl <;> (simp [List.getElem?_append, hfs16] at hk; subst hk; refine ⟨?_, by first | omega | (simp; done) | (simp; omega)⟩; simp [qids, asksB, Op.operands, Call.operands, topId, numS, numI, Wd, hfq17]; try omega)) ?_
      try simp only []
      refine DQ.sto1 (m := 2) [] _ (by simp (disch := first|omega|(simp only[ln];omega)) [runDf.eq_def, runF1, runF2, stepF.eq_def, updo.eq_def, hupo.eq_def, opSto1.eq_def, idf_Wd', idf_numI, cells_numI, numI_fold]; rfl) rfl (by simp only [List.length_append, List.length_cons, List.length_nil, hfs16]; omega) (by kernel_rfl) (by intro k f hk hex; simp only [List.not_mem_nil] at hex) ?_
      try simp only []
      refine hK15 _ ?_
      refine AWP.ret ?_
      exact hK _ _ _ _ trivial ((Fin.mk (by simp [aRes, aResL, aRes1, idf_Wd', idf_numI, cells_numI, numI_fold]; rfl)).cast (by rw [← e.1, ← e.2, show ((b.natAbs : Nat) : Int) = -b by omega, ← Int.sub_eq_add_neg]))
    · try simp only [decide_eq_true_eq, decide_eq_false_iff_not] at h36
      have e := eu.2.2 h30 h36
      refine AWP.draw 3 Try.checked.mixed (by kernel_rfl) (by simp) ?_
      simp only [List.take_succ_cons, List.take_zero, List.drop_succ_cons, List.drop_zero]
      refine DP.runFk 1 (by simp (disch := first|omega|(simp only[ln];omega)) [runDf.eq_def, runF1, runF2, stepF.eq_def, updo.eq_def, hupo.eq_def, opSto1.eq_def, List.take_succ_cons, List.take_zero, idf_Wd', idf_numI, cells_numI, numI_fold]; rfl) fun fs18 hfs18 => ?_
      replace hfs18 : fs18.length = 1 := hfs18.trans rfl
      simp only [List.drop_succ_cons, List.drop_zero]
      refine DP.fcall (whole_fc 1 (by omega) (by omega)) rfl rfl rfl hb89 (by simp (disch := first|omega|(simp only[ln];omega)) [idf_Wd', idf_numI, cells_numI, numI_fold]) (by simp (disch := first|omega|(simp only[ln];omega))) (by simp) ?_
      simp only [updo]
      refine DP.fcall (less_fc (bqs S) (Bg.i64 (n := 1) (by omega) (by omega)) (by omega) (by omega)) rfl rfl rfl hb109 (by simp (disch := first|omega|(simp only[ln];omega)) [idf_Wd', idf_numI, cells_numI, numI_fold]) (by simp (disch := first|omega|(simp only[ln];omega))) (by simp) ?_
      simp only [updo]
      refine DQ.runF (m := 3) (by simp only [List.length_append, List.length_cons, List.length_nil, hfs18]; omega) _ _ _ (by kernel_rfl) rfl (by simp (disch := first|omega|(simp only[ln];omega)) [runDf.eq_def, runF1, runF2, stepF.eq_def, updo.eq_def, hupo.eq_def, opSto1.eq_def, idf_Wd', idf_numI, cells_numI, numI_fold]; rfl) ?_
      refine hK9 _ ?_
      refine AWP.seqk fun K19 hK19 => ?_
      refine AWP.old fun hold => ?_
      refine AWP.draw 2 Try.checked.mixed (by kernel_rfl) (by simp) ?_
      simp only [List.take_succ_cons, List.take_zero, List.drop_succ_cons, List.drop_zero]
      refine DP.runFk 1 (by simp (disch := first|omega|(simp only[ln];omega)) [runDf.eq_def, runF1, runF2, stepF.eq_def, updo.eq_def, hupo.eq_def, opSto1.eq_def, List.take_succ_cons, List.take_zero, idf_Wd', idf_numI, cells_numI, numI_fold]; rfl) fun fs20 hfs20 => ?_
      replace hfs20 : fs20.length = 1 := hfs20.trans rfl
      simp only [List.drop_succ_cons, List.drop_zero]
      refine DP.runF1q (by simp (disch := first|omega|(simp only[ln];omega)) [runDf.eq_def, runF1, runF2, stepF.eq_def, updo.eq_def, hupo.eq_def, opSto1.eq_def, idf_Wd', idf_numI, cells_numI, numI_fold]; rfl) fun fq21 hfq21 => ?_
      simp [qids, asksB, Op.operands, topId] at hfq21
      simp only [updo]
      refine DQ.sto1 (m := 2) [1] _ (by simp (disch := first|omega|(simp only[ln];omega)) [runDf.eq_def, runF1, runF2, stepF.eq_def, updo.eq_def, hupo.eq_def, opSto1.eq_def, idf_Wd', idf_numI, cells_numI, numI_fold]; rfl) rfl (by simp only [List.length_append, List.length_cons, List.length_nil, hfs20]; omega) (by kernel_rfl) (by intro k f hk hex; simp only [List.mem_cons, List.not_mem_nil, or_false] at hex; rcases hex with rfl <;> (simp [List.getElem?_append, hfs20] at hk; subst hk; refine ⟨?_, by first | omega | (simp; done) | (simp; omega)⟩; simp [qids, asksB, Op.operands, Call.operands, topId, numS, numI, Wd, hfq21]; try omega)) ?_
      try simp only []
      refine DQ.sto1 (m := 2) [] _ (by simp (disch := first|omega|(simp only[ln];omega)) [runDf.eq_def, runF1, runF2, stepF.eq_def, updo.eq_def, hupo.eq_def, opSto1.eq_def, idf_Wd', idf_numI, cells_numI, numI_fold]; rfl) rfl (by simp only [List.length_append, List.length_cons, List.length_nil, hfs20]; omega) (by kernel_rfl) (by intro k f hk hex; simp only [List.not_mem_nil] at hex) ?_
      try simp only []
      refine hK19 _ ?_
      refine AWP.ret ?_
      exact hK _ _ _ _ trivial ((Fin.mk (by simp [aRes, aResL, aRes1, idf_Wd', idf_numI, cells_numI, numI_fold]; rfl)).cast (by rw [← e.1, ← e.2, show ((b.natAbs : Nat) : Int) = b by omega]))
  · try simp only [decide_eq_true_eq, decide_eq_false_iff_not] at h30
    have e := eu.1 h30
    refine AWP.skip ?_
    refine hK9 _ ?_
    refine AWP.seqk fun K22 hK22 => ?_
    refine AWP.old fun hold => ?_
    refine AWP.draw 2 Try.checked.mixed (by kernel_rfl) (by simp) ?_
    simp only [List.take_succ_cons, List.take_zero, List.drop_succ_cons, List.drop_zero]
    refine DP.runFk 1 (by simp (disch := first|omega|(simp only[ln];omega)) [runDf.eq_def, runF1, runF2, stepF.eq_def, updo.eq_def, hupo.eq_def, opSto1.eq_def, List.take_succ_cons, List.take_zero, idf_Wd', idf_numI, cells_numI, numI_fold]; rfl) fun fs23 hfs23 => ?_
    replace hfs23 : fs23.length = 1 := hfs23.trans rfl
    simp only [List.drop_succ_cons, List.drop_zero]
    refine DP.runF1q (by simp (disch := first|omega|(simp only[ln];omega)) [runDf.eq_def, runF1, runF2, stepF.eq_def, updo.eq_def, hupo.eq_def, opSto1.eq_def, idf_Wd', idf_numI, cells_numI, numI_fold]; rfl) fun fq24 hfq24 => ?_
    simp [qids, asksB, Op.operands, topId] at hfq24
    simp only [updo]
    refine DQ.sto1 (m := 2) [1] _ (by simp (disch := first|omega|(simp only[ln];omega)) [runDf.eq_def, runF1, runF2, stepF.eq_def, updo.eq_def, hupo.eq_def, opSto1.eq_def, idf_Wd', idf_numI, cells_numI, numI_fold]; rfl) rfl (by simp only [List.length_append, List.length_cons, List.length_nil, hfs23]; omega) (by kernel_rfl) (by intro k f hk hex; simp only [List.mem_cons, List.not_mem_nil, or_false] at hex; rcases hex with rfl <;> (simp [List.getElem?_append, hfs23] at hk; subst hk; refine ⟨?_, by first | omega | (simp; done) | (simp; omega)⟩; simp [qids, asksB, Op.operands, Call.operands, topId, numS, numI, Wd, hfq24]; try omega)) ?_
    try simp only []
    refine DQ.sto1 (m := 2) [] _ (by simp (disch := first|omega|(simp only[ln];omega)) [runDf.eq_def, runF1, runF2, stepF.eq_def, updo.eq_def, hupo.eq_def, opSto1.eq_def, idf_Wd', idf_numI, cells_numI, numI_fold]; rfl) rfl (by simp only [List.length_append, List.length_cons, List.length_nil, hfs23]; omega) (by kernel_rfl) (by intro k f hk hex; simp only [List.not_mem_nil] at hex) ?_
    try simp only []
    refine hK22 _ ?_
    refine AWP.ret ?_
    exact hK _ _ _ _ trivial ((Fin.mk (by simp [aRes, aResL, aRes1, idf_Wd', idf_numI, cells_numI, numI_fold]; rfl)).cast (by rw [e.1, e.2]))

end Go.Proofs.Ytmaebeknmiomnaa

/- Walks: spots and segments. -/
namespace Go.Proofs.Ytmaebeknmiomnaa
open Go Go.RowKit
set_option linter.unusedSimpArgs false
set_option linter.unusedVariables false
set_option maxRecDepth 100000
attribute [local simp] List.getElem?_cons_zero List.getElem?_cons_succ List.getElem?_toArray runOps stepOp.eq_def agd.eq_def dstOk.eq_def opVal.eq_def opNew.eq_def opSto.eq_def ev.eq_def cv.eq_def puts_some puts_none upd_ap lst.eq_def aBin.eq_def aUn.eq_def aBi_str aBi_isl aBi_osl aBi_nsl aBi_max aBi_min aBi_max3 aConv.eq_def aLd.eq_def aLoad.eq_def aField.eq_def aFld.eq_def aIdx_isl aIdx_osl aSlc_isl aSlc_osl aSlc_str aSlc_nsl bnd.eq_def evs_nil evs_cons aBuild.eq_def aFill splice.eq_def cells_agg cells_int cells_bool cells_str cells_nil cells_nsl cells_isl cells_osl cells_ptr cells_ip cells_fn cells_Wd one_int one_bool one_str one_nil one_nsl one_isl one_osl one_ptr one_ip one_fn one_Wd aSets hupd_eq hupd_ne wrap_i64s wrap_u64s wrap_u32s wrap_u8s wd_getD wd_set wd_len wd_replicate wd_one wd_fold fz_osl hupd_same aSix.eq_def aEqS.eq_def aEqB_bool aEqB_nsl aEqB_nil
attribute [local simp] szT2 byT2 agT2 unT2 zoT2 szT3 byT3 agT3 unT3 zoT3 szT26 byT26 agT26 flT26 fdT26_0 fdT26_1 fdT26_2 fdT26_3 zoT26 szT28 byT28 agT28 flT28 fdT28_0 fdT28_1 fdT28_2 zoT28 szT67 byT67 agT67 flT67 fdT67_0 fdT67_1 zoT67 szT69 byT69 agT69 flT69 fdT69_0 fdT69_1 zoT69 szT134 byT134 agT134 flT134 fdT134_0 fdT134_1 zoT134 szT136 byT136 agT136 flT136 fdT136_0 fdT136_1 zoT136

theorem eqW2 (p q : Sp) : eqW Try.prog 8 67 [.int .i64 p.x, .int .i64 p.y] [.int .i64 q.x, .int .i64 q.y] = some (decide (p = q)) := by
  obtain ⟨a, b⟩ := p
  obtain ⟨a', b'⟩ := q
  have hs : Try.prog.stoodInHeld 67 = false := by kernel_rfl
  have hz : szOf Try.prog 2 = some 1 := by kernel_rfl
  have ha : aggT Try.prog 2 = some false := by kernel_rfl
  have e1 : ∀ (n : Nat) (x y : Int), eqW Try.prog (n + 1) 2 [.int .i64 x] [.int .i64 y] = some (x == y) := fun n x y => by
    unfold eqW
    simp only [Try.underlying2]
    first | rfl | simp [eqF]
  unfold eqW
  simp only [Try.underlying67, hs]
  simp [eqF, hz, ha, e1]
  rw [Bool.eq_iff_iff]
  simp
theorem lsS_dec (p q : Sp) : decide (cmS p q < 0) = lsS p q := by rw [Bool.eq_iff_iff, decide_eq_true_eq]; exact cmS_neg
theorem wdZ_l {n : Int} (hf : fits n = true) : wdZ n = .agg (W4z n).l := by
  have e := wdT_l n
  unfold wdT at e
  rw [if_pos hf] at e; exact e
theorem wideOf4_fc (n : Int) (h1 : -9223372036854775808 ≤ n) (h2 : n ≤ 9223372036854775807) (hf : fits n = true) : FC Try.prog 20 [.int .i64 n] (.agg [.int .u64 (W4z n).a, .int .u64 (W4z n).b, .int .u64 (W4z n).c, .int .u64 (W4z n).d]) := by
  have h := wideOf_fc n h1 h2
  rw [wdZ_l hf] at h; exact h
theorem inM_fits {x : Int} (h : inM x = true) : fits x = true := by
  have := inM_b h; unfold fits; simp; omega
theorem sm1 {x y : Int} (hx : inM x = true) (hy : inM y = true) : sm x y 1 = true := by
  have := inM_b hx; have := inM_b hy
  have e : (2 : Nat) ^ 80 = 1208925819614629174706176 := by decide
  simp only [sm, Bool.and_eq_true, decide_eq_true_eq, bitLen_le, e]; omega

theorem within_fc (n a b : Int) : FC Try.prog 135 [.int .i64 n, .int .i64 a, .int .i64 b] (.bool (decide (a ≤ n) && decide (n ≤ b))) := by
  refine FC.body Try.func135 rfl (by simp [idfL, idf, idfLL_iff, idf_Wd']) (by simp [idfL, idf, idfLL_iff, idf_Wd']) 15 rfl fun nx K hK => ?_
  refine AWP.seqk fun K1 hK1 => ?_
  refine AWP.region (AOPS.all (by simp (disch := first|omega|(simp only[ln];omega)) [idf_Wd']; rfl) ?_)
  refine hK1 _ ?_
  refine AWP.seqk fun K2 hK2 => ?_
  cases h : decide (a ≤ n)
  · refine AWP.region (AOPS.all (by simp (disch := first|omega|(simp only[ln];omega)) [idf_Wd', h]; rfl) ?_)
    refine hK2 _ ?_
    refine AWP.ret ?_
    exact hK _ _ _ _ trivial ((Fin.mk (by simp [aRes, aResL, aRes1, idf_Wd']; rfl)).cast (by rw [h]; rfl))
  · refine AWP.region (AOPS.all (by simp (disch := first|omega|(simp only[ln];omega)) [idf_Wd', h]; rfl) ?_)
    refine hK2 _ ?_
    refine AWP.ret ?_
    exact hK _ _ _ _ trivial ((Fin.mk (by simp [aRes, aResL, aRes1, idf_Wd']; rfl)).cast (by rw [h]; rfl))

theorem withinM_fc (n : Int) : FC Try.prog 135 [.int .i64 n, .int .i64 (-1000000), .int .i64 1000000] (.bool (inM n)) := within_fc n (-1000000) 1000000
theorem spotOkI_fc (p : Sp) : FC Try.prog 49 [p.av] (.bool p.good) := by
  refine FC.body Try.func49 rfl (by simp [idfL, idf, Sp.av, Sp.cells, Sg.av, Sg.cells]) (by simp [idfL, idf, idfLL_iff, idf_Wd', Sp.av, Sp.cells, Sg.av, Sg.cells]) 11 rfl fun nx K hK => ?_
  refine AWP.seqk fun K1 hK1 => ?_
  refine AWP.region (AOPS.all (by simp (disch := first|omega|(simp only[ln];omega)) [idf_Wd', Sp.av, Sp.cells, Sg.av, Sg.cells]; rfl) ?_)
  refine hK1 _ ?_
  refine AWP.seqk fun K2 hK2 => ?_
  cases hx : inM p.x
  · refine AWP.region ?_
    refine AOPS.runk 2 (by simp (disch := first|omega|(simp only[ln];omega)) [List.take_succ_cons, List.take_zero, idf_Wd', Sp.av, Sp.cells, Sg.av, Sg.cells, hx]; rfl) ?_
    simp only [List.drop_succ_cons, List.drop_zero]
    refine AOPS.fcall (withinM_fc p.x) rfl rfl rfl hb135 (by simp (disch := first|omega|(simp only[ln];omega)) [idf_Wd', hx, Sp.av, Sp.cells, Sg.av, Sg.cells]) (by simp (disch := first|omega|(simp only[ln];omega)) [hx]) (by simp) ?_
    simp only [puts_some, updo]
    refine AOPS.all (by simp (disch := first|omega|(simp only[ln];omega)) [idf_Wd', Sp.av, Sp.cells, Sg.av, Sg.cells, hx]; rfl) ?_
    refine hK2 _ ?_
    refine AWP.ret ?_
    exact hK _ _ _ _ trivial ((Fin.mk (by simp [aRes, aResL, aRes1, idf_Wd', Sp.av, Sp.cells, Sg.av, Sg.cells]; rfl)).cast (by unfold Sp.good; rw [hx]; rfl))
  · refine AWP.region ?_
    refine AOPS.runk 2 (by simp (disch := first|omega|(simp only[ln];omega)) [List.take_succ_cons, List.take_zero, idf_Wd', Sp.av, Sp.cells, Sg.av, Sg.cells, hx]; rfl) ?_
    simp only [List.drop_succ_cons, List.drop_zero]
    refine AOPS.fcall (withinM_fc p.x) rfl rfl rfl hb135 (by simp (disch := first|omega|(simp only[ln];omega)) [idf_Wd', hx, Sp.av, Sp.cells, Sg.av, Sg.cells]) (by simp (disch := first|omega|(simp only[ln];omega)) [hx]) (by simp) ?_
    simp only [puts_some, updo]
    refine AOPS.runk 3 (by simp (disch := first|omega|(simp only[ln];omega)) [List.take_succ_cons, List.take_zero, idf_Wd', Sp.av, Sp.cells, Sg.av, Sg.cells, hx]; rfl) ?_
    simp only [List.drop_succ_cons, List.drop_zero]
    refine AOPS.fcall (withinM_fc p.y) rfl rfl rfl hb135 (by simp (disch := first|omega|(simp only[ln];omega)) [idf_Wd', hx, Sp.av, Sp.cells, Sg.av, Sg.cells]) (by simp (disch := first|omega|(simp only[ln];omega)) [hx]) (by simp) ?_
    simp only [puts_some, updo]
    refine AOPS.all (by simp (disch := first|omega|(simp only[ln];omega)) [idf_Wd', Sp.av, Sp.cells, Sg.av, Sg.cells, hx]; rfl) ?_
    refine hK2 _ ?_
    refine AWP.ret ?_
    exact hK _ _ _ _ trivial ((Fin.mk (by simp [aRes, aResL, aRes1, idf_Wd', Sp.av, Sp.cells, Sg.av, Sg.cells]; rfl)).cast (by unfold Sp.good; rw [hx]; rfl))

theorem cmpSpots_fc (p q : Sp) : FC Try.prog 134 [p.av, q.av] (.int .i64 (cmS p q)) := by
  refine FC.body Try.func134 rfl (by simp [idfL, idf, Sp.av, Sp.cells, Sg.av, Sg.cells]) (by simp [idfL, idf, idfLL_iff, idf_Wd', Sp.av, Sp.cells, Sg.av, Sg.cells]) 29 rfl fun nx K hK => ?_
  refine AWP.seqk fun K1 hK1 => ?_
  refine AWP.region (AOPS.all (by simp (disch := first|omega|(simp only[ln];omega)) [idf_Wd', Sp.av, Sp.cells, Sg.av, Sg.cells]; rfl) ?_)
  refine hK1 _ ?_
  refine AWP.seqk fun K2 hK2 => ?_
  refine AWP.block ?_
  refine AWP.seqk fun K3 hK3 => ?_
  refine AWP.region (AOPS.all (by simp (disch := first|omega|(simp only[ln];omega)) [idf_Wd', Sp.av, Sp.cells, Sg.av, Sg.cells, eqW2]; rfl) ?_)
  refine hK3 _ ?_
  refine cond_ok (decide (p = q)) (by simp (disch := first|omega|(simp only[ln];omega))) (fun h5 => ?_) (fun h5 => ?_)
  · try simp only [decide_eq_true_eq, decide_eq_false_iff_not] at h5
    refine AWP.seqk fun K4 hK4 => ?_
    refine AWP.region (AOPS.all (by simp (disch := first|omega|(simp only[ln];omega)) [idf_Wd', Sp.av, Sp.cells, Sg.av, Sg.cells]; rfl) ?_)
    refine hK4 _ ?_
    refine AWP.ret ?_
    exact hK _ _ _ _ trivial ((Fin.mk (by simp [aRes, aResL, aRes1, idf_Wd', Sp.av, Sp.cells, Sg.av, Sg.cells]; rfl)).cast (by unfold cmS; rw [if_pos h5]))
  · try simp only [decide_eq_true_eq, decide_eq_false_iff_not] at h5
    have hv : cmS p q = if lsS p q = true then -1 else 1 := by unfold cmS; rw [if_neg h5]
    refine AWP.seqk fun K5 hK5 => ?_
    by_cases q1 : p.x < q.x
    · have hl : lsS p q = true := by simp [lsS, q1]
      have c1 : decide (p.x < q.x) = true := by simp [q1]
      refine AWP.region (AOPS.all (by simp (disch := first|omega|(simp only[ln];omega)) [idf_Wd', Sp.av, Sp.cells, Sg.av, Sg.cells, c1]; rfl) ?_)
      refine hK5 _ ?_
      refine cond_ok _ (by simp (disch := first|omega|(simp only[ln];omega)); rfl) (fun h9 => ?_) (fun h9 => ?_)
      · try simp only [decide_eq_true_eq, decide_eq_false_iff_not] at h9
        refine AWP.seqk fun K6 hK6 => ?_
        refine AWP.region (AOPS.all (by simp (disch := first|omega|(simp only[ln];omega)) [idf_Wd', Sp.av, Sp.cells, Sg.av, Sg.cells]; rfl) ?_)
        refine hK6 _ ?_
        refine AWP.ret ?_
        exact hK _ _ _ _ trivial ((Fin.mk (by simp [aRes, aResL, aRes1, idf_Wd', Sp.av, Sp.cells, Sg.av, Sg.cells]; rfl)).cast (by rw [hv, hl]; rfl))
      · simp at h9
    · have c1 : decide (p.x < q.x) = false := by simp; omega
      by_cases q2 : p.x = q.x
      · have c2 : (p.x == q.x) = true := by simp [q2]
        refine AWP.region (AOPS.all (by simp (disch := first|omega|(simp only[ln];omega)) [idf_Wd', Sp.av, Sp.cells, Sg.av, Sg.cells, c1, c2]; rfl) ?_)
        refine hK5 _ ?_
        refine cond_ok (decide (p.y < q.y)) (by simp (disch := first|omega|(simp only[ln];omega))) (fun h9 => ?_) (fun h9 => ?_)
        · try simp only [decide_eq_true_eq, decide_eq_false_iff_not] at h9
          refine AWP.seqk fun K7 hK7 => ?_
          refine AWP.region (AOPS.all (by simp (disch := first|omega|(simp only[ln];omega)) [idf_Wd', Sp.av, Sp.cells, Sg.av, Sg.cells]; rfl) ?_)
          refine hK7 _ ?_
          refine AWP.ret ?_
          exact hK _ _ _ _ trivial ((Fin.mk (by simp [aRes, aResL, aRes1, idf_Wd', Sp.av, Sp.cells, Sg.av, Sg.cells]; rfl)).cast (by rw [hv, show lsS p q = true by simp [lsS, q2, h9]]; rfl))
        · try simp only [decide_eq_true_eq, decide_eq_false_iff_not] at h9
          refine AWP.skip ?_
          refine hK2 _ ?_
          refine AWP.seqk fun K8 hK8 => ?_
          refine AWP.region (AOPS.all (by simp (disch := first|omega|(simp only[ln];omega)) [idf_Wd', Sp.av, Sp.cells, Sg.av, Sg.cells]; rfl) ?_)
          refine hK8 _ ?_
          refine AWP.ret ?_
          exact hK _ _ _ _ trivial ((Fin.mk (by simp [aRes, aResL, aRes1, idf_Wd', Sp.av, Sp.cells, Sg.av, Sg.cells]; rfl)).cast (by rw [hv, show lsS p q = false by simp [lsS, q2]; omega]; rfl))
      · have c2 : (p.x == q.x) = false := by simp [q2]
        refine AWP.region (AOPS.all (by simp (disch := first|omega|(simp only[ln];omega)) [idf_Wd', Sp.av, Sp.cells, Sg.av, Sg.cells, c1, c2]; rfl) ?_)
        refine hK5 _ ?_
        refine cond_ok _ (by simp (disch := first|omega|(simp only[ln];omega)); rfl) (fun h9 => ?_) (fun h9 => ?_)
        · simp at h9
        · try simp only [decide_eq_true_eq, decide_eq_false_iff_not] at h9
          refine AWP.skip ?_
          refine hK2 _ ?_
          refine AWP.seqk fun K9 hK9 => ?_
          refine AWP.region (AOPS.all (by simp (disch := first|omega|(simp only[ln];omega)) [idf_Wd', Sp.av, Sp.cells, Sg.av, Sg.cells]; rfl) ?_)
          refine hK9 _ ?_
          refine AWP.ret ?_
          exact hK _ _ _ _ trivial ((Fin.mk (by simp [aRes, aResL, aRes1, idf_Wd', Sp.av, Sp.cells, Sg.av, Sg.cells]; rfl)).cast (by rw [hv, show lsS p q = false by simp [lsS, q2]; omega]; rfl))

theorem segOkI_fc (s : Sg) : FC Try.prog 48 [s.av] (.bool s.good) := by
  refine FC.body Try.func48 rfl (by simp [idfL, idf, Sp.av, Sp.cells, Sg.av, Sg.cells]) (by simp [idfL, idf, idfLL_iff, idf_Wd', Sp.av, Sp.cells, Sg.av, Sg.cells]) 19 rfl fun nx K hK => ?_
  refine AWP.seqk fun K1 hK1 => ?_
  refine AWP.region (AOPS.all (by simp (disch := first|omega|(simp only[ln];omega)) [idf_Wd', Sp.av, Sp.cells, Sg.av, Sg.cells]; rfl) ?_)
  refine hK1 _ ?_
  refine AWP.seqk fun K2 hK2 => ?_
  cases ha : s.a.good
  · refine AWP.region ?_
    refine AOPS.runk 2 (by simp (disch := first|omega|(simp only[ln];omega)) [List.take_succ_cons, List.take_zero, idf_Wd', Sp.av, Sp.cells, Sg.av, Sg.cells, ha]; rfl) ?_
    simp only [List.drop_succ_cons, List.drop_zero]
    refine AOPS.fcall (spotOkI_fc s.a) rfl rfl rfl hb49 (by simp (disch := first|omega|(simp only[ln];omega)) [idf_Wd', ha, Sp.av, Sp.cells, Sg.av, Sg.cells]) (by simp (disch := first|omega|(simp only[ln];omega)) [ha]) (by simp) ?_
    simp only [puts_some, updo]
    refine AOPS.all (by simp (disch := first|omega|(simp only[ln];omega)) [idf_Wd', Sp.av, Sp.cells, Sg.av, Sg.cells, ha]; rfl) ?_
    refine hK2 _ ?_
    refine AWP.ret ?_
    exact hK _ _ _ _ trivial ((Fin.mk (by simp [aRes, aResL, aRes1, idf_Wd', Sp.av, Sp.cells, Sg.av, Sg.cells]; rfl)).cast (by unfold Sg.good; rw [ha]; rfl))
  · cases hb : s.b.good
    · refine AWP.region ?_
      refine AOPS.runk 2 (by simp (disch := first|omega|(simp only[ln];omega)) [List.take_succ_cons, List.take_zero, idf_Wd', Sp.av, Sp.cells, Sg.av, Sg.cells, ha, hb]; rfl) ?_
      simp only [List.drop_succ_cons, List.drop_zero]
      refine AOPS.fcall (spotOkI_fc s.a) rfl rfl rfl hb49 (by simp (disch := first|omega|(simp only[ln];omega)) [idf_Wd', ha, hb, Sp.av, Sp.cells, Sg.av, Sg.cells]) (by simp (disch := first|omega|(simp only[ln];omega)) [ha, hb]) (by simp) ?_
      simp only [puts_some, updo]
      refine AOPS.runk 3 (by simp (disch := first|omega|(simp only[ln];omega)) [List.take_succ_cons, List.take_zero, idf_Wd', Sp.av, Sp.cells, Sg.av, Sg.cells, ha, hb]; rfl) ?_
      simp only [List.drop_succ_cons, List.drop_zero]
      refine AOPS.fcall (spotOkI_fc s.b) rfl rfl rfl hb49 (by simp (disch := first|omega|(simp only[ln];omega)) [idf_Wd', ha, hb, Sp.av, Sp.cells, Sg.av, Sg.cells]) (by simp (disch := first|omega|(simp only[ln];omega)) [ha, hb]) (by simp) ?_
      simp only [puts_some, updo]
      refine AOPS.all (by simp (disch := first|omega|(simp only[ln];omega)) [idf_Wd', Sp.av, Sp.cells, Sg.av, Sg.cells, ha, hb]; rfl) ?_
      refine hK2 _ ?_
      refine AWP.ret ?_
      exact hK _ _ _ _ trivial ((Fin.mk (by simp [aRes, aResL, aRes1, idf_Wd', Sp.av, Sp.cells, Sg.av, Sg.cells]; rfl)).cast (by unfold Sg.good; rw [ha, hb]; rfl))
    · refine AWP.region ?_
      refine AOPS.runk 2 (by simp (disch := first|omega|(simp only[ln];omega)) [List.take_succ_cons, List.take_zero, idf_Wd', Sp.av, Sp.cells, Sg.av, Sg.cells, ha, hb, lsS_dec]; rfl) ?_
      simp only [List.drop_succ_cons, List.drop_zero]
      refine AOPS.fcall (spotOkI_fc s.a) rfl rfl rfl hb49 (by simp (disch := first|omega|(simp only[ln];omega)) [idf_Wd', ha, hb, lsS_dec, Sp.av, Sp.cells, Sg.av, Sg.cells]) (by simp (disch := first|omega|(simp only[ln];omega)) [ha, hb, lsS_dec]) (by simp) ?_
      simp only [puts_some, updo]
      refine AOPS.runk 3 (by simp (disch := first|omega|(simp only[ln];omega)) [List.take_succ_cons, List.take_zero, idf_Wd', Sp.av, Sp.cells, Sg.av, Sg.cells, ha, hb, lsS_dec]; rfl) ?_
      simp only [List.drop_succ_cons, List.drop_zero]
      refine AOPS.fcall (spotOkI_fc s.b) rfl rfl rfl hb49 (by simp (disch := first|omega|(simp only[ln];omega)) [idf_Wd', ha, hb, lsS_dec, Sp.av, Sp.cells, Sg.av, Sg.cells]) (by simp (disch := first|omega|(simp only[ln];omega)) [ha, hb, lsS_dec]) (by simp) ?_
      simp only [puts_some, updo]
      refine AOPS.runk 6 (by simp (disch := first|omega|(simp only[ln];omega)) [List.take_succ_cons, List.take_zero, idf_Wd', Sp.av, Sp.cells, Sg.av, Sg.cells, ha, hb, lsS_dec]; rfl) ?_
      simp only [List.drop_succ_cons, List.drop_zero]
      refine AOPS.fcall (cmpSpots_fc s.a s.b) rfl rfl rfl hb134 (by simp (disch := first|omega|(simp only[ln];omega)) [idf_Wd', ha, hb, lsS_dec, Sp.av, Sp.cells, Sg.av, Sg.cells]) (by simp (disch := first|omega|(simp only[ln];omega)) [ha, hb, lsS_dec]) (by simp) ?_
      simp only [puts_some, updo]
      refine AOPS.all (by simp (disch := first|omega|(simp only[ln];omega)) [idf_Wd', Sp.av, Sp.cells, Sg.av, Sg.cells, ha, hb, lsS_dec]; rfl) ?_
      refine hK2 _ ?_
      refine AWP.ret ?_
      exact hK _ _ _ _ trivial ((Fin.mk (by simp [aRes, aResL, aRes1, idf_Wd', Sp.av, Sp.cells, Sg.av, Sg.cells]; rfl)).cast (by unfold Sg.good; rw [ha, hb]; rfl))

set_option maxHeartbeats 1000000 in
theorem cross_fc (a b c : Sp) (ha : a.good = true) (hb : b.good = true) (hc : c.good = true) : FC Try.prog 187 [a.av, b.av, c.av] (.int .i64 (crs a b c)) := by
  have pa := Sp.b ha
  have pb := Sp.b hb
  have pc := Sp.b hc
  have m1 := mul_b (u := b.x - a.x) (v := c.y - a.y) (m := 2000000) (n := 2000000) (by omega) (by omega) (by omega) (by omega) (by omega)
  have m2 := mul_b (u := b.y - a.y) (v := c.x - a.x) (m := 2000000) (n := 2000000) (by omega) (by omega) (by omega) (by omega) (by omega)
  refine FC.body Try.func187 rfl (by simp [idfL, idf, Sp.av, Sp.cells, Sg.av, Sg.cells]) (by simp [idfL, idf, idfLL_iff, idf_Wd', Sp.av, Sp.cells, Sg.av, Sg.cells]) 30 rfl fun nx K hK => ?_
  refine AWP.seqk fun K1 hK1 => ?_
  refine AWP.region (AOPS.all (by simp (disch := first|omega|(simp only[ln];omega)) [idf_Wd', Sp.av, Sp.cells, Sg.av, Sg.cells]; rfl) ?_)
  refine hK1 _ ?_
  refine AWP.seqk fun K2 hK2 => ?_
  refine AWP.region (AOPS.all (by simp (disch := first|omega|(simp only[ln];omega)) [idf_Wd', Sp.av, Sp.cells, Sg.av, Sg.cells]; rfl) ?_)
  refine hK2 _ ?_
  refine AWP.ret ?_
  exact hK _ _ _ _ trivial ((Fin.mk (by simp [aRes, aResL, aRes1, idf_Wd', Sp.av, Sp.cells, Sg.av, Sg.cells]; rfl)).cast (by rfl))

theorem signI_fc (n : Int) : FC Try.prog 188 [.int .i64 n] (.int .i64 (sg3 n)) := by
  refine FC.body Try.func188 rfl (by simp [idfL, idf, idfLL_iff, idf_Wd']) (by simp [idfL, idf, idfLL_iff, idf_Wd']) 9 rfl fun nx K hK => ?_
  refine AWP.seqk fun K1 hK1 => ?_
  refine AWP.region (AOPS.all (by simp (disch := first|omega|(simp only[ln];omega)) [idf_Wd']; rfl) ?_)
  refine hK1 _ ?_
  refine AWP.seqk fun K2 hK2 => ?_
  refine AWP.block ?_
  refine AWP.seqk fun K3 hK3 => ?_
  refine AWP.region (AOPS.all (by simp (disch := first|omega|(simp only[ln];omega)) [idf_Wd']; rfl) ?_)
  refine hK3 _ ?_
  refine cond_ok (decide (n < 0)) (by simp (disch := first|omega|(simp only[ln];omega))) (fun h3 => ?_) (fun h3 => ?_)
  · try simp only [decide_eq_true_eq, decide_eq_false_iff_not] at h3
    refine AWP.seqk fun K4 hK4 => ?_
    refine AWP.region (AOPS.all (by simp (disch := first|omega|(simp only[ln];omega)) [idf_Wd']; rfl) ?_)
    refine hK4 _ ?_
    refine AWP.ret ?_
    exact hK _ _ _ _ trivial ((Fin.mk (by simp [aRes, aResL, aRes1, idf_Wd']; rfl)).cast (by unfold sg3; rw [if_pos h3]))
  · try simp only [decide_eq_true_eq, decide_eq_false_iff_not] at h3
    refine AWP.seqk fun K5 hK5 => ?_
    refine AWP.region (AOPS.all (by simp (disch := first|omega|(simp only[ln];omega)) [idf_Wd']; rfl) ?_)
    refine hK5 _ ?_
    refine cond_ok (decide (0 < n)) (by simp (disch := first|omega|(simp only[ln];omega))) (fun h6 => ?_) (fun h6 => ?_)
    · try simp only [decide_eq_true_eq, decide_eq_false_iff_not] at h6
      refine AWP.seqk fun K6 hK6 => ?_
      refine AWP.region (AOPS.all (by simp (disch := first|omega|(simp only[ln];omega)) [idf_Wd']; rfl) ?_)
      refine hK6 _ ?_
      refine AWP.ret ?_
      exact hK _ _ _ _ trivial ((Fin.mk (by simp [aRes, aResL, aRes1, idf_Wd']; rfl)).cast (by unfold sg3; rw [if_neg h3, if_pos h6]))
    · try simp only [decide_eq_true_eq, decide_eq_false_iff_not] at h6
      refine AWP.skip ?_
      refine hK2 _ ?_
      refine AWP.seqk fun K7 hK7 => ?_
      refine AWP.region (AOPS.all (by simp (disch := first|omega|(simp only[ln];omega)) [idf_Wd']; rfl) ?_)
      refine hK7 _ ?_
      refine AWP.ret ?_
      exact hK _ _ _ _ trivial ((Fin.mk (by simp [aRes, aResL, aRes1, idf_Wd']; rfl)).cast (by unfold sg3; rw [if_neg h3, if_neg h6]))

theorem pointOfI_fc (p : Sp) (hp : p.good = true) : FC Try.prog 50 [p.av] (.agg [.int .u64 (ptS p).x.a, .int .u64 (ptS p).x.b, .int .u64 (ptS p).x.c, .int .u64 (ptS p).x.d, .int .u64 (ptS p).y.a, .int .u64 (ptS p).y.b, .int .u64 (ptS p).y.c, .int .u64 (ptS p).y.d, .int .u64 (ptS p).w.a, .int .u64 (ptS p).w.b, .int .u64 (ptS p).w.c, .int .u64 (ptS p).w.d]) := by
  have pb := Sp.b hp
  have hx : inM p.x = true := by simp [inM]; omega
  have hy : inM p.y = true := by simp [inM]; omega
  have hs := sm1 hx hy
  refine FC.body Try.func50 rfl (by simp [idfL, idf, Sp.av, Sp.cells, Sg.av, Sg.cells]) (by simp [idfL, idf, idfLL_iff, idf_Wd', Sp.av, Sp.cells, Sg.av, Sg.cells]) 11 rfl fun nx K hK => ?_
  refine AWP.seqk fun K1 hK1 => ?_
  refine AWP.region (AOPS.all (by simp (disch := first|omega|(simp only[ln];omega)) [idf_Wd', Sp.av, Sp.cells, Sg.av, Sg.cells]; rfl) ?_)
  refine hK1 _ ?_
  refine AWP.seqk fun K2 hK2 => ?_
  refine AWP.draw 8 Try.checked.mixed (by kernel_rfl) (by simp) ?_
  simp only [List.take_succ_cons, List.take_zero, List.drop_succ_cons, List.drop_zero]
  refine DP.runFk 2 (by simp (disch := first|omega|(simp only[ln];omega)) [runDf.eq_def, runF1, runF2, stepF.eq_def, updo.eq_def, hupo.eq_def, opSto1.eq_def, List.take_succ_cons, List.take_zero, idf_Wd', Sp.av, Sp.cells, Sg.av, Sg.cells]; rfl) fun fs3 hfs3 => ?_
  replace hfs3 : fs3.length = 2 := hfs3.trans rfl
  simp only [List.drop_succ_cons, List.drop_zero]
  refine DP.fcall (wideOf4_fc p.x (by omega) (by omega) (inM_fits hx)) rfl rfl rfl hb20 (by simp (disch := first|omega|(simp only[ln];omega)) [idf_Wd', Sp.av, Sp.cells, Sg.av, Sg.cells]) (by simp (disch := first|omega|(simp only[ln];omega))) (by simp) ?_
  simp only [updo]
  refine DP.runFk 2 (by simp (disch := first|omega|(simp only[ln];omega)) [runDf.eq_def, runF1, runF2, stepF.eq_def, updo.eq_def, hupo.eq_def, opSto1.eq_def, List.take_succ_cons, List.take_zero, idf_Wd', Sp.av, Sp.cells, Sg.av, Sg.cells]; rfl) fun fs4 hfs4 => ?_
  replace hfs4 : fs4.length = 2 := hfs4.trans rfl
  simp only [List.drop_succ_cons, List.drop_zero]
  refine DP.fcall (wideOf4_fc p.y (by omega) (by omega) (inM_fits hy)) rfl rfl rfl hb20 (by simp (disch := first|omega|(simp only[ln];omega)) [idf_Wd', Sp.av, Sp.cells, Sg.av, Sg.cells]) (by simp (disch := first|omega|(simp only[ln];omega))) (by simp) ?_
  simp only [updo]
  refine DP.fcall (wideOf4_fc 1 (by omega) (by omega) (by decide)) rfl rfl rfl hb20 (by simp (disch := first|omega|(simp only[ln];omega)) [idf_Wd', Sp.av, Sp.cells, Sg.av, Sg.cells]) (by simp (disch := first|omega|(simp only[ln];omega))) (by simp) ?_
  simp only [updo]
  refine DP.runFk 1 (by simp (disch := first|omega|(simp only[ln];omega)) [runDf.eq_def, runF1, runF2, stepF.eq_def, updo.eq_def, hupo.eq_def, opSto1.eq_def, List.take_succ_cons, List.take_zero, idf_Wd', Sp.av, Sp.cells, Sg.av, Sg.cells]; rfl) fun fs5 hfs5 => ?_
  replace hfs5 : fs5.length = 1 := hfs5.trans rfl
  simp only [List.drop_succ_cons, List.drop_zero]
  refine DQ.runF (m := 8) (by simp only [List.length_append, List.length_cons, List.length_nil, hfs3, hfs4, hfs5]; omega) _ _ _ (by kernel_rfl) rfl (by simp (disch := first|omega|(simp only[ln];omega)) [runDf.eq_def, runF1, runF2, stepF.eq_def, updo.eq_def, hupo.eq_def, opSto1.eq_def, idf_Wd', Sp.av, Sp.cells, Sg.av, Sg.cells]; rfl) ?_
  refine hK2 _ ?_
  refine AWP.ret ?_
  exact hK _ _ _ _ trivial ((Fin.mk (by simp [aRes, aResL, aRes1, idf_Wd', Sp.av, Sp.cells, Sg.av, Sg.cells]; rfl)).cast (by rw [ptS, pt3, if_pos hs]))

theorem toSpot_fc (p : Sp) : FC Try.prog 184 [p.av] (.agg [.int .i64 p.x, .int .i64 p.y]) := by
  refine FC.body Try.func184 rfl (by simp [idfL, idf, Sp.av, Sp.cells, Sg.av, Sg.cells]) (by simp [idfL, idf, idfLL_iff, idf_Wd', Sp.av, Sp.cells, Sg.av, Sg.cells]) 11 rfl fun nx K hK => ?_
  refine AWP.seqk fun K1 hK1 => ?_
  refine AWP.region (AOPS.all (by simp (disch := first|omega|(simp only[ln];omega)) [idf_Wd', Sp.av, Sp.cells, Sg.av, Sg.cells]; rfl) ?_)
  refine hK1 _ ?_
  refine AWP.seqk fun K2 hK2 => ?_
  refine AWP.region (AOPS.all (by simp (disch := first|omega|(simp only[ln];omega)) [idf_Wd', Sp.av, Sp.cells, Sg.av, Sg.cells]; rfl) ?_)
  refine hK2 _ ?_
  refine AWP.seqk fun K3 hK3 => ?_
  refine AWP.region (AOPS.all (by simp (disch := first|omega|(simp only[ln];omega)) [idf_Wd', Sp.av, Sp.cells, Sg.av, Sg.cells]; rfl) ?_)
  refine hK3 _ ?_
  refine AWP.seqk fun K4 hK4 => ?_
  refine AWP.region (AOPS.all (by simp (disch := first|omega|(simp only[ln];omega)) [idf_Wd', Sp.av, Sp.cells, Sg.av, Sg.cells]; rfl) ?_)
  refine hK4 _ ?_
  refine AWP.seqk fun K5 hK5 => ?_
  refine AWP.region (AOPS.all (by simp (disch := first|omega|(simp only[ln];omega)) [idf_Wd', Sp.av, Sp.cells, Sg.av, Sg.cells]; rfl) ?_)
  refine hK5 _ ?_
  refine AWP.ret ?_
  exact hK _ _ _ _ trivial (Fin.mk (by simp (disch := first|omega|(simp only[ln];omega)) [aRes, aResL, aRes1, idf_Wd', Sp.av, Sp.cells, Sg.av, Sg.cells]))

theorem toSeg_fc (s : Sg) : FC Try.prog 96 [s.av] (.agg [.int .i64 s.a.x, .int .i64 s.a.y, .int .i64 s.b.x, .int .i64 s.b.y]) := by
  refine FC.body Try.func96 rfl (by simp [idfL, idf, Sp.av, Sp.cells, Sg.av, Sg.cells]) (by simp [idfL, idf, idfLL_iff, idf_Wd', Sp.av, Sp.cells, Sg.av, Sg.cells]) 13 rfl fun nx K hK => ?_
  refine AWP.seqk fun K1 hK1 => ?_
  refine AWP.region (AOPS.all (by simp (disch := first|omega|(simp only[ln];omega)) [idf_Wd', Sp.av, Sp.cells, Sg.av, Sg.cells]; rfl) ?_)
  refine hK1 _ ?_
  refine AWP.seqk fun K2 hK2 => ?_
  refine AWP.region (AOPS.all (by simp (disch := first|omega|(simp only[ln];omega)) [idf_Wd', Sp.av, Sp.cells, Sg.av, Sg.cells]; rfl) ?_)
  refine hK2 _ ?_
  refine AWP.seqk fun K3 hK3 => ?_
  refine AWP.region ?_
  refine AOPS.runk 2 (by simp (disch := first|omega|(simp only[ln];omega)) [List.take_succ_cons, List.take_zero, idf_Wd', Sp.av, Sp.cells, Sg.av, Sg.cells]; rfl) ?_
  simp only [List.drop_succ_cons, List.drop_zero]
  refine AOPS.fcall (toSpot_fc s.a) rfl rfl rfl hb184 (by simp (disch := first|omega|(simp only[ln];omega)) [idf_Wd', Sp.av, Sp.cells, Sg.av, Sg.cells]) (by simp (disch := first|omega|(simp only[ln];omega))) (by simp) ?_
  simp only [puts_some, updo]
  refine AOPS.all (by simp (disch := first|omega|(simp only[ln];omega)) [idf_Wd', Sp.av, Sp.cells, Sg.av, Sg.cells]; rfl) ?_
  refine hK3 _ ?_
  refine AWP.seqk fun K4 hK4 => ?_
  refine AWP.region ?_
  refine AOPS.runk 2 (by simp (disch := first|omega|(simp only[ln];omega)) [List.take_succ_cons, List.take_zero, idf_Wd', Sp.av, Sp.cells, Sg.av, Sg.cells]; rfl) ?_
  simp only [List.drop_succ_cons, List.drop_zero]
  refine AOPS.fcall (toSpot_fc s.b) rfl rfl rfl hb184 (by simp (disch := first|omega|(simp only[ln];omega)) [idf_Wd', Sp.av, Sp.cells, Sg.av, Sg.cells]) (by simp (disch := first|omega|(simp only[ln];omega))) (by simp) ?_
  simp only [puts_some, updo]
  refine AOPS.all (by simp (disch := first|omega|(simp only[ln];omega)) [idf_Wd', Sp.av, Sp.cells, Sg.av, Sg.cells]; rfl) ?_
  refine hK4 _ ?_
  refine AWP.seqk fun K5 hK5 => ?_
  refine AWP.region (AOPS.all (by simp (disch := first|omega|(simp only[ln];omega)) [idf_Wd', Sp.av, Sp.cells, Sg.av, Sg.cells]; rfl) ?_)
  refine hK5 _ ?_
  refine AWP.ret ?_
  exact hK _ _ _ _ trivial (Fin.mk (by simp (disch := first|omega|(simp only[ln];omega)) [aRes, aResL, aRes1, idf_Wd', Sp.av, Sp.cells, Sg.av, Sg.cells]))

end Go.Proofs.Ytmaebeknmiomnaa

/- Walks: where segments meet, by the program. -/
namespace Go.Proofs.Ytmaebeknmiomnaa
open Go Go.RowKit
set_option linter.unusedSimpArgs false
set_option linter.unusedVariables false
set_option maxRecDepth 100000
attribute [local simp] List.getElem?_cons_zero List.getElem?_cons_succ List.getElem?_toArray runOps stepOp.eq_def agd.eq_def dstOk.eq_def opVal.eq_def opNew.eq_def opSto.eq_def ev.eq_def cv.eq_def puts_some puts_none upd_ap lst.eq_def aBin.eq_def aUn.eq_def aBi_str aBi_isl aBi_osl aBi_nsl aBi_max aBi_min aBi_max3 aConv.eq_def aLd.eq_def aLoad.eq_def aField.eq_def aFld.eq_def aIdx_isl aIdx_osl aSlc_isl aSlc_osl aSlc_str aSlc_nsl bnd.eq_def evs_nil evs_cons aBuild.eq_def aFill splice.eq_def cells_agg cells_int cells_bool cells_str cells_nil cells_nsl cells_isl cells_osl cells_ptr cells_ip cells_fn cells_Wd one_int one_bool one_str one_nil one_nsl one_isl one_osl one_ptr one_ip one_fn one_Wd aSets hupd_eq hupd_ne wrap_i64s wrap_u64s wrap_u32s wrap_u8s wd_getD wd_set wd_len wd_replicate wd_one wd_fold fz_osl hupd_same aSix.eq_def aEqS.eq_def aEqB_bool aEqB_nsl aEqB_nil
attribute [local simp] szT2 byT2 agT2 unT2 zoT2 szT4 byT4 agT4 unT4 zoT4 szT24 byT24 agT24 unT24 zoT24 szT26 byT26 agT26 flT26 fdT26_0 fdT26_1 fdT26_2 fdT26_3 zoT26 szT28 byT28 agT28 flT28 fdT28_0 fdT28_1 fdT28_2 zoT28 szT117 byT117 agT117 elT117 unT117 zoT117 szT119 byT119 agT119 flT119 fdT119_0 fdT119_1 zoT119 szT121 byT121 agT121 flT121 fdT121_0 fdT121_1 fdT121_2 zoT121 szT200 byT200 agT200 elT200 unT200 zoT200

theorem mx_fold (a b : Int) : (if a < b then b else a) = mx a b := rfl
theorem mn_fold (a b : Int) : (if b < a then b else a) = mn a b := rfl
theorem max_sm2 (x y w : Int) : decide (80 < (if (if bitLen x.natAbs < bitLen y.natAbs then (bitLen y.natAbs : Int) else (bitLen x.natAbs : Int)) < (bitLen w.natAbs : Int) then (bitLen w.natAbs : Int) else if bitLen x.natAbs < bitLen y.natAbs then (bitLen y.natAbs : Int) else (bitLen x.natAbs : Int))) = !sm x y w := by
  rw [← max_sm]
  generalize (if (if bitLen x.natAbs < bitLen y.natAbs then (bitLen y.natAbs : Int) else (bitLen x.natAbs : Int)) < (bitLen w.natAbs : Int) then (bitLen w.natAbs : Int) else if bitLen x.natAbs < bitLen y.natAbs then (bitLen y.natAbs : Int) else (bitLen x.natAbs : Int)) = m
  rw [Bool.eq_iff_iff]; simp
theorem gcd3_x (x y w : Int) : gcd3 x y w ∣ x := Int.dvd_trans (by unfold gcd3; exact Int.ofNat_dvd.2 (Nat.gcd_dvd_left _ _)) (Int.gcd_dvd_left (a := x) (b := y))
theorem gcd3_y (x y w : Int) : gcd3 x y w ∣ y := Int.dvd_trans (by unfold gcd3; exact Int.ofNat_dvd.2 (Nat.gcd_dvd_left _ _)) (Int.gcd_dvd_right (a := x) (b := y))
theorem gcd3_w (x y w : Int) : gcd3 x y w ∣ w := by unfold gcd3; exact Int.dvd_natAbs.1 (Int.ofNat_dvd.2 (Nat.gcd_dvd_right _ _))
theorem div_nrm {x y w z g : Int} (hg : gcd3 x y w = g) (hz : g ∣ z) : z / (if w < 0 then -g else g) = nrm w z / g := by
  unfold nrm; split
  · rw [Int.ediv_neg, Int.neg_ediv_of_dvd hz]
  · rfl

set_option maxHeartbeats 4000000 in
theorem spotPoint_fc {j : Nat} (x y w : Int) (bx : Bg j x) (bY : Bg j y) (bw : Bg j w) (hj : j ≤ 16777216) : FC Try.prog 93 [spA x y w] (.tup [.agg [.int .u64 (mkP x y w).x.a, .int .u64 (mkP x y w).x.b, .int .u64 (mkP x y w).x.c, .int .u64 (mkP x y w).x.d, .int .u64 (mkP x y w).y.a, .int .u64 (mkP x y w).y.b, .int .u64 (mkP x y w).y.c, .int .u64 (mkP x y w).y.d, .int .u64 (mkP x y w).w.a, .int .u64 (mkP x y w).w.b, .int .u64 (mkP x y w).w.c, .int .u64 (mkP x y w).w.d], .bool (mkB x y w)]) := by
  obtain ⟨cs, hsf, hse⟩ : ∃ c : Int, FC Try.prog 85 [numI w] (.int .i64 c) ∧ (c == 0) = decide (w = 0) := ⟨_, sign_fc w, by
    by_cases h : w = 0
    · subst h; rfl
    · have : (if w < 0 then (-1 : Int) else if w > 0 then 1 else 0) ≠ 0 := by split <;> (try split) <;> omega
      rw [beq_eq_false_iff_ne.2 this]; simp [h]⟩
  refine FC.body Try.func93 rfl (by simp [idfL, idf, idfLL_iff, idf_Wd', idf_numI, cells_numI, numI_fold, spA, spC, numC]) (by simp [idfL, idf, idfLL_iff, idf_Wd', idf_numI, cells_numI, numI_fold, spA, spC, numC]) 80 rfl fun nx K hK => ?_
  refine AWP.seqk fun K1 hK1 => ?_
  refine AWP.region (AOPS.all (by simp (disch := first|omega|(simp only[ln];omega)) [idf_Wd', idf_numI, cells_numI, numI_fold, spA, spC, numC]; rfl) ?_)
  refine hK1 _ ?_
  refine AWP.seqk fun K2 hK2 => ?_
  refine AWP.seqk fun K3 hK3 => ?_
  refine AWP.region ?_
  refine AOPS.runk 2 (by simp (disch := first|omega|(simp only[ln];omega)) [List.take_succ_cons, List.take_zero, idf_Wd', idf_numI, cells_numI, numI_fold, spA, spC, numC]; rfl) ?_
  simp only [List.drop_succ_cons, List.drop_zero]
  refine AOPS.fcall (hsf) rfl rfl rfl hb85 (by simp (disch := first|omega|(simp only[ln];omega)) [idf_Wd', idf_numI, cells_numI, numI_fold, spA, spC, numC]) (by simp (disch := first|omega|(simp only[ln];omega))) (by simp) ?_
  simp only [puts_some, updo]
  refine AOPS.all (by simp (disch := first|omega|(simp only[ln];omega)) [idf_Wd', idf_numI, cells_numI, numI_fold, spA, spC, numC]; rfl) ?_
  refine hK3 _ ?_
  refine cond_ok (decide (w = 0)) (by simp (disch := first|omega|(simp only[ln];omega)) [hse]) (fun h15 => ?_) (fun h15 => ?_)
  · try simp only [decide_eq_true_eq, decide_eq_false_iff_not] at h15
    refine AWP.seqk fun K4 hK4 => ?_
    refine AWP.region (AOPS.all (by simp (disch := first|omega|(simp only[ln];omega)) [idf_Wd', idf_numI, cells_numI, numI_fold, spA, spC, numC]; rfl) ?_)
    refine hK4 _ ?_
    refine AWP.ret ?_
    exact hK _ _ _ _ trivial ((Fin.mk (by simp [aRes, aResL, aRes1, idf_Wd', idf_numI, cells_numI, numI_fold, spA, spC, numC]; rfl)).cast (by unfold mkP mkB; rw [if_pos h15, if_pos h15]; rfl))
  · try simp only [decide_eq_true_eq, decide_eq_false_iff_not] at h15
    have hw : w ≠ 0 := h15
    have hgp := gcd3_pos (x := x) (y := y) hw
    have hgx := gcd3_x x y w
    have hgy := gcd3_y x y w
    have hgw := gcd3_w x y w
    have eP : mkP x y w = pt3 (nrm w x / gcd3 x y w) (nrm w y / gcd3 x y w) (nrm w w / gcd3 x y w) := by unfold mkP; rw [if_neg hw]
    have eB : mkB x y w = sm (nrm w x / gcd3 x y w) (nrm w y / gcd3 x y w) (nrm w w / gcd3 x y w) := by unfold mkB; rw [if_neg hw]
    have bG : Bg j (gcd3 x y w) := by
      have b1 : Bg j ((Int.gcd x y : Nat) : Int) := Bg.gcd bx.abs bY.abs
      exact Bg.gcd b1 bw.abs
    have hg2 : FC Try.prog 87 [.isl [numC x, numC y, numC w]] (numI (gcd3 x y w)) := by
      have h := gcd_fc (j := j) [x, y, w] (by intro z hz; simp only [List.mem_cons, List.not_mem_nil, or_false] at hz; rcases hz with rfl | rfl | rfl <;> assumption) (by omega) (by simp)
      rw [gcdL_three] at h; exact h
    generalize hgg : gcd3 x y w = g at *
    have bX := (bx.nrm (w := w)).div hgp
    have bYY := (bY.nrm (w := w)).div hgp
    have bW := (bw.nrm (w := w)).div hgp
    refine AWP.skip ?_
    refine hK2 _ ?_
    refine AWP.seqk fun K5 hK5 => ?_
    refine AWP.region ?_
    refine AOPS.runk 7 (by simp (disch := first|omega|(simp only[ln];omega)) [List.take_succ_cons, List.take_zero, idf_Wd', idf_numI, cells_numI, numI_fold, spA, spC, numC]; rfl) ?_
    simp only [List.drop_succ_cons, List.drop_zero]
    refine AOPS.frz1 23 (nx + 1 + 1) 2 [numC x, numC y, numC w] (.isl [numC x, numC y, numC w]) (by simp [numC]) (by simp [fz, numC]) ?_
    refine AOPS.fcall (hg2) rfl rfl rfl hb87 (by simp (disch := first|omega|(simp only[ln];omega)) [idf_Wd', idf_numI, cells_numI, numI_fold, spA, spC, numC]) (by simp (disch := first|omega|(simp only[ln];omega))) (by simp) ?_
    simp only [puts_some, updo]
    refine AOPS.all (by simp (disch := first|omega|(simp only[ln];omega)) [idf_Wd', idf_numI, cells_numI, numI_fold, spA, spC, numC]; rfl) ?_
    refine hK5 _ ?_
    refine AWP.seqk fun K6 hK6 => ?_
    have J6 : ∀ s : St, (∃ D : Int, D = (if w < 0 then -g else g) ∧ s.env 1 = .ptr nx 0 0 ∧ s.env 2 = .ptr (nx + 1) 0 0 ∧ s.env 4 = .ptr (nx + 1 + 1 + 1) 0 0 ∧ s.env 3 = .bool false ∧ s.heap nx = some (6, [[.bool (decide (x < 0)), Wd .u64 (mag x), .bool (decide (y < 0)), Wd .u64 (mag y), .bool (decide (w < 0)), Wd .u64 (mag w)]]) ∧ s.heap (nx + 1) = some (12, [[.int .u64 0, .int .u64 0, .int .u64 0, .int .u64 0, .int .u64 0, .int .u64 0, .int .u64 0, .int .u64 0, .int .u64 0, .int .u64 0, .int .u64 0, .int .u64 0]]) ∧ s.heap (nx + 1 + 1 + 1) = some (2, [[.bool (decide (D < 0)), Wd .u64 (mag (D))]]) ∧ nx + 1 + 1 + 1 < s.nx ∧ s.nt = 80) → K6 s := by
      rintro ⟨e, H, mm, nt⟩ ⟨D, hD, h1, h2, h4, h3, hA, hB, hC, hm, rfl⟩
      simp only [] at h1 h2 h4 h3 hA hB hC hm
      have dX := div_nrm hgg hgx
      have dY := div_nrm hgg hgy
      have dW := div_nrm hgg hgw
      rw [← hD] at dX dY dW
      have bD : Bg j D := by rw [hD]; split; exact bG.neg; exact bG
      have hDn : D ≠ 0 := by rw [hD]; split <;> omega
      have ox := over_fc x D hDn bx bD hj
      have oy := over_fc y D hDn bY bD hj
      have ow := over_fc w D hDn bw bD hj
      rw [dX] at ox
      rw [dY] at oy
      rw [dW] at ow
      generalize nrm w x / g = X at *
      generalize nrm w y / g = Y at *
      generalize nrm w w / g = W at *
      have hms := max_sm2 X Y W
      have w1 := wide_fc bX (by omega)
      have w2 := wide_fc bYY (by omega)
      have w3 := wide_fc bW (by omega)
      rw [wdT_l] at w1 w2 w3
      unfold W4.l at w1 w2 w3
      clear dX dY dW
      refine hK6 _ ?_
      refine AWP.seqk fun K7 hK7 => ?_
      refine AWP.region ?_
      refine AOPS.runk 3 (by simp (disch := first|omega|(simp only[ln];omega)) [List.take_succ_cons, List.take_zero, idf_Wd', idf_numI, cells_numI, numI_fold, spA, spC, numC, h1, h4, hA, hC]; rfl) ?_
      simp only [List.drop_succ_cons, List.drop_zero]
      refine AOPS.fcall (ox) rfl rfl rfl hb180 (by simp (disch := first|omega|(simp only[ln];omega)) [idf_Wd', h1, h4, hA, hC, idf_numI, cells_numI, numI_fold, spA, spC, numC]) (by simp (disch := first|omega|(simp only[ln];omega)) [h1, h4, hA, hC]) (by simp) ?_
      simp only [puts_some, updo]
      refine AOPS.all (by simp (disch := first|omega|(simp only[ln];omega)) [idf_Wd', idf_numI, cells_numI, numI_fold, spA, spC, numC, h1, h4, hA, hC]; rfl) ?_
      refine hK7 _ ?_
      refine AWP.seqk fun K8 hK8 => ?_
      refine AWP.region ?_
      refine AOPS.runk 3 (by simp (disch := first|omega|(simp only[ln];omega)) [List.take_succ_cons, List.take_zero, idf_Wd', idf_numI, cells_numI, numI_fold, spA, spC, numC, h1, h4, hA, hC]; rfl) ?_
      simp only [List.drop_succ_cons, List.drop_zero]
      refine AOPS.fcall (oy) rfl rfl rfl hb180 (by simp (disch := first|omega|(simp only[ln];omega)) [idf_Wd', h1, h4, hA, hC, idf_numI, cells_numI, numI_fold, spA, spC, numC]) (by simp (disch := first|omega|(simp only[ln];omega)) [h1, h4, hA, hC]) (by simp) ?_
      simp only [puts_some, updo]
      refine AOPS.all (by simp (disch := first|omega|(simp only[ln];omega)) [idf_Wd', idf_numI, cells_numI, numI_fold, spA, spC, numC, h1, h4, hA, hC]; rfl) ?_
      refine hK8 _ ?_
      refine AWP.seqk fun K9 hK9 => ?_
      refine AWP.region ?_
      refine AOPS.runk 3 (by simp (disch := first|omega|(simp only[ln];omega)) [List.take_succ_cons, List.take_zero, idf_Wd', idf_numI, cells_numI, numI_fold, spA, spC, numC, h1, h4, hA, hC]; rfl) ?_
      simp only [List.drop_succ_cons, List.drop_zero]
      refine AOPS.fcall (ow) rfl rfl rfl hb180 (by simp (disch := first|omega|(simp only[ln];omega)) [idf_Wd', h1, h4, hA, hC, idf_numI, cells_numI, numI_fold, spA, spC, numC]) (by simp (disch := first|omega|(simp only[ln];omega)) [h1, h4, hA, hC]) (by simp) ?_
      simp only [puts_some, updo]
      refine AOPS.all (by simp (disch := first|omega|(simp only[ln];omega)) [idf_Wd', idf_numI, cells_numI, numI_fold, spA, spC, numC, h1, h4, hA, hC]; rfl) ?_
      refine hK9 _ ?_
      refine AWP.seqk fun K10 hK10 => ?_
      refine AWP.seqk fun K11 hK11 => ?_
      refine AWP.draw 8 Try.checked.mixed (by kernel_rfl) (by simp) ?_
      simp only [List.take_succ_cons, List.take_zero, List.drop_succ_cons, List.drop_zero]
      refine DP.runFk 1 (by simp (disch := first|omega|(simp only[ln];omega)) [runDf.eq_def, runF1, runF2, stepF.eq_def, updo.eq_def, hupo.eq_def, opSto1.eq_def, List.take_succ_cons, List.take_zero, idf_Wd', idf_numI, cells_numI, numI_fold, spA, spC, numC, hms]; rfl) fun fs12 hfs12 => ?_
      replace hfs12 : fs12.length = 1 := hfs12.trans rfl
      simp only [List.drop_succ_cons, List.drop_zero]
      refine DP.fcall (size_fc bX (by omega)) rfl rfl rfl hb86 (by simp (disch := first|omega|(simp only[ln];omega)) [idf_Wd', hms, idf_numI, cells_numI, numI_fold, spA, spC, numC]) (by simp (disch := first|omega|(simp only[ln];omega)) [hms]) (by simp) ?_
      simp only [updo]
      refine DP.runFk 1 (by simp (disch := first|omega|(simp only[ln];omega)) [runDf.eq_def, runF1, runF2, stepF.eq_def, updo.eq_def, hupo.eq_def, opSto1.eq_def, List.take_succ_cons, List.take_zero, idf_Wd', idf_numI, cells_numI, numI_fold, spA, spC, numC, hms]; rfl) fun fs13 hfs13 => ?_
      replace hfs13 : fs13.length = 1 := hfs13.trans rfl
      simp only [List.drop_succ_cons, List.drop_zero]
      refine DP.fcall (size_fc bYY (by omega)) rfl rfl rfl hb86 (by simp (disch := first|omega|(simp only[ln];omega)) [idf_Wd', hms, idf_numI, cells_numI, numI_fold, spA, spC, numC]) (by simp (disch := first|omega|(simp only[ln];omega)) [hms]) (by simp) ?_
      simp only [updo]
      refine DP.runFk 1 (by simp (disch := first|omega|(simp only[ln];omega)) [runDf.eq_def, runF1, runF2, stepF.eq_def, updo.eq_def, hupo.eq_def, opSto1.eq_def, List.take_succ_cons, List.take_zero, idf_Wd', idf_numI, cells_numI, numI_fold, spA, spC, numC, hms]; rfl) fun fs14 hfs14 => ?_
      replace hfs14 : fs14.length = 1 := hfs14.trans rfl
      simp only [List.drop_succ_cons, List.drop_zero]
      refine DP.fcall (size_fc bW (by omega)) rfl rfl rfl hb86 (by simp (disch := first|omega|(simp only[ln];omega)) [idf_Wd', hms, idf_numI, cells_numI, numI_fold, spA, spC, numC]) (by simp (disch := first|omega|(simp only[ln];omega)) [hms]) (by simp) ?_
      simp only [updo]
      refine DP.runFk 2 (by simp (disch := first|omega|(simp only[ln];omega)) [runDf.eq_def, runF1, runF2, stepF.eq_def, updo.eq_def, hupo.eq_def, opSto1.eq_def, List.take_succ_cons, List.take_zero, idf_Wd', idf_numI, cells_numI, numI_fold, spA, spC, numC, hms]; rfl) fun fs15 hfs15 => ?_
      replace hfs15 : fs15.length = 2 := hfs15.trans rfl
      simp only [List.drop_succ_cons, List.drop_zero]
      refine DQ.runF (m := 8) (by simp only [List.length_append, List.length_cons, List.length_nil, hfs12, hfs13, hfs14, hfs15]; omega) _ _ _ (by kernel_rfl) rfl (by simp (disch := first|omega|(simp only[ln];omega)) [runDf.eq_def, runF1, runF2, stepF.eq_def, updo.eq_def, hupo.eq_def, opSto1.eq_def, idf_Wd', idf_numI, cells_numI, numI_fold, spA, spC, numC, hms]; rfl) ?_
      refine hK11 _ ?_
      refine cond_ok (!sm X Y W) (by simp (disch := first|omega|(simp only[ln];omega))) (fun h58 => ?_) (fun h58 => ?_)
      · try simp only [decide_eq_true_eq, decide_eq_false_iff_not] at h58
        have hb : sm X Y W = false := by simpa using h58
        refine AWP.seqk fun K16 hK16 => ?_
        refine AWP.region (AOPS.all (by simp (disch := first|omega|(simp only[ln];omega)) [idf_Wd', idf_numI, cells_numI, numI_fold, spA, spC, numC, h2, hB]; rfl) ?_)
        refine hK16 _ ?_
        refine AWP.ret ?_
        exact hK _ _ _ _ trivial ((Fin.mk (by simp (disch := omega) [aRes, aResL, aRes1, h2, idf_Wd', idf_numI, cells_numI, numI_fold, spA, spC, numC]; rfl)).cast (by rw [eP, eB, pt3, hb]; rfl))
      · try simp only [decide_eq_true_eq, decide_eq_false_iff_not] at h58
        have hb : sm X Y W = true := by simpa using h58
        refine AWP.skip ?_
        refine hK10 _ ?_
        refine AWP.seqk fun K17 hK17 => ?_
        refine AWP.region (AOPS.all (by simp (disch := first|omega|(simp only[ln];omega)) [idf_Wd', idf_numI, cells_numI, numI_fold, spA, spC, numC]; rfl) ?_)
        refine hK17 _ ?_
        refine AWP.seqk fun K18 hK18 => ?_
        refine AWP.region ?_
        refine AOPS.runk 1 (by simp (disch := first|omega|(simp only[ln];omega)) [List.take_succ_cons, List.take_zero, idf_Wd', idf_numI, cells_numI, numI_fold, spA, spC, numC]; rfl) ?_
        simp only [List.drop_succ_cons, List.drop_zero]
        refine AOPS.fcall (w1) rfl rfl rfl hb90 (by simp (disch := first|omega|(simp only[ln];omega)) [idf_Wd', idf_numI, cells_numI, numI_fold, spA, spC, numC]) (by simp (disch := first|omega|(simp only[ln];omega))) (by simp) ?_
        simp only [puts_some, updo]
        refine AOPS.all (by simp (disch := first|omega|(simp only[ln];omega)) [idf_Wd', idf_numI, cells_numI, numI_fold, spA, spC, numC]; rfl) ?_
        refine hK18 _ ?_
        refine AWP.seqk fun K19 hK19 => ?_
        refine AWP.region ?_
        refine AOPS.runk 1 (by simp (disch := first|omega|(simp only[ln];omega)) [List.take_succ_cons, List.take_zero, idf_Wd', idf_numI, cells_numI, numI_fold, spA, spC, numC]; rfl) ?_
        simp only [List.drop_succ_cons, List.drop_zero]
        refine AOPS.fcall (w2) rfl rfl rfl hb90 (by simp (disch := first|omega|(simp only[ln];omega)) [idf_Wd', idf_numI, cells_numI, numI_fold, spA, spC, numC]) (by simp (disch := first|omega|(simp only[ln];omega))) (by simp) ?_
        simp only [puts_some, updo]
        refine AOPS.all (by simp (disch := first|omega|(simp only[ln];omega)) [idf_Wd', idf_numI, cells_numI, numI_fold, spA, spC, numC]; rfl) ?_
        refine hK19 _ ?_
        refine AWP.seqk fun K20 hK20 => ?_
        refine AWP.region ?_
        refine AOPS.runk 1 (by simp (disch := first|omega|(simp only[ln];omega)) [List.take_succ_cons, List.take_zero, idf_Wd', idf_numI, cells_numI, numI_fold, spA, spC, numC]; rfl) ?_
        simp only [List.drop_succ_cons, List.drop_zero]
        refine AOPS.fcall (w3) rfl rfl rfl hb90 (by simp (disch := first|omega|(simp only[ln];omega)) [idf_Wd', idf_numI, cells_numI, numI_fold, spA, spC, numC]) (by simp (disch := first|omega|(simp only[ln];omega))) (by simp) ?_
        simp only [puts_some, updo]
        refine AOPS.all (by simp (disch := first|omega|(simp only[ln];omega)) [idf_Wd', idf_numI, cells_numI, numI_fold, spA, spC, numC]; rfl) ?_
        refine hK20 _ ?_
        refine AWP.seqk fun K21 hK21 => ?_
        refine AWP.region (AOPS.all (by simp (disch := first|omega|(simp only[ln];omega)) [idf_Wd', idf_numI, cells_numI, numI_fold, spA, spC, numC, h2, hB]; rfl) ?_)
        refine hK21 _ ?_
        refine AWP.ret ?_
        exact hK _ _ _ _ trivial ((Fin.mk (by simp (disch := omega) [aRes, aResL, aRes1, h2, idf_Wd', idf_numI, cells_numI, numI_fold, spA, spC, numC]; rfl)).cast (by rw [eP, eB, pt3, if_pos hb, hb]))
    refine AWP.seqk fun K22 hK22 => ?_
    refine AWP.region (AOPS.all (by simp (disch := first|omega|(simp only[ln];omega)) [idf_Wd', idf_numI, cells_numI, numI_fold, spA, spC, numC]; rfl) ?_)
    refine hK22 _ ?_
    refine cond_ok (decide (w < 0)) (by simp (disch := first|omega|(simp only[ln];omega))) (fun h27 => ?_) (fun h27 => ?_)
    · try simp only [decide_eq_true_eq, decide_eq_false_iff_not] at h27
      refine AWP.region ?_
      refine AOPS.runk 1 (by simp (disch := first|omega|(simp only[ln];omega)) [List.take_succ_cons, List.take_zero, idf_Wd', idf_numI, cells_numI, numI_fold, spA, spC, numC]; rfl) ?_
      simp only [List.drop_succ_cons, List.drop_zero]
      refine AOPS.fcall (minus_fc bG (by omega)) rfl rfl rfl hb179 (by simp (disch := first|omega|(simp only[ln];omega)) [idf_Wd', idf_numI, cells_numI, numI_fold, spA, spC, numC]) (by simp (disch := first|omega|(simp only[ln];omega))) (by simp) ?_
      simp only [puts_some, updo]
      refine AOPS.all (by simp (disch := first|omega|(simp only[ln];omega)) [idf_Wd', idf_numI, cells_numI, numI_fold, spA, spC, numC]; rfl) ?_
      refine J6 _ ?_
      exact ⟨-g, by simp [h27], by simp, by simp, by simp, by simp, by simp (disch := omega), by simp (disch := omega), by simp (disch := omega), by simp, rfl⟩
    · try simp only [decide_eq_true_eq, decide_eq_false_iff_not] at h27
      refine AWP.skip ?_
      refine J6 _ ?_
      exact ⟨g, by simp [h27], by simp, by simp, by simp, by simp, by simp (disch := omega), by simp (disch := omega), by simp (disch := omega), by simp, rfl⟩

theorem none_fc  : FC Try.prog 186 [] (.tup [.int .i64 0, .agg [.int .u64 (pt0).x.a, .int .u64 (pt0).x.b, .int .u64 (pt0).x.c, .int .u64 (pt0).x.d, .int .u64 (pt0).y.a, .int .u64 (pt0).y.b, .int .u64 (pt0).y.c, .int .u64 (pt0).y.d, .int .u64 (pt0).w.a, .int .u64 (pt0).w.b, .int .u64 (pt0).w.c, .int .u64 (pt0).w.d], .agg [.int .u64 (pt0).x.a, .int .u64 (pt0).x.b, .int .u64 (pt0).x.c, .int .u64 (pt0).x.d, .int .u64 (pt0).y.a, .int .u64 (pt0).y.b, .int .u64 (pt0).y.c, .int .u64 (pt0).y.d, .int .u64 (pt0).w.a, .int .u64 (pt0).w.b, .int .u64 (pt0).w.c, .int .u64 (pt0).w.d]]) := by
  refine FC.body Try.func186 rfl (by simp [idfL, idf, idfLL_iff, idf_Wd', idf_numI, cells_numI, numI_fold]) (by simp [idfL, idf, idfLL_iff, idf_Wd', idf_numI, cells_numI, numI_fold]) 5 rfl fun nx K hK => ?_
  refine AWP.seqk fun K1 hK1 => ?_
  refine AWP.region (AOPS.all (by simp (disch := first|omega|(simp only[ln];omega)) [idf_Wd', idf_numI, cells_numI, numI_fold]; rfl) ?_)
  refine hK1 _ ?_
  refine AWP.seqk fun K2 hK2 => ?_
  refine AWP.region (AOPS.all (by simp (disch := first|omega|(simp only[ln];omega)) [idf_Wd', idf_numI, cells_numI, numI_fold]; rfl) ?_)
  refine hK2 _ ?_
  refine AWP.ret ?_
  exact hK _ _ _ _ trivial ((Fin.mk (by simp [aRes, aResL, aRes1, idf_Wd', idf_numI, cells_numI, numI_fold]; rfl)).cast (by rfl))

end Go.Proofs.Ytmaebeknmiomnaa

/- Walks: where segments meet, by the program (2). -/
namespace Go.Proofs.Ytmaebeknmiomnaa
open Go Go.RowKit
set_option linter.unusedSimpArgs false
set_option linter.unusedVariables false
set_option maxRecDepth 100000
attribute [local simp] List.getElem?_cons_zero List.getElem?_cons_succ List.getElem?_toArray runOps stepOp.eq_def agd.eq_def dstOk.eq_def opVal.eq_def opNew.eq_def opSto.eq_def ev.eq_def cv.eq_def puts_some puts_none upd_ap lst.eq_def aBin.eq_def aUn.eq_def aBi_str aBi_isl aBi_osl aBi_nsl aBi_max aBi_min aBi_max3 aConv.eq_def aLd.eq_def aLoad.eq_def aField.eq_def aFld.eq_def aIdx_isl aIdx_osl aSlc_isl aSlc_osl aSlc_str aSlc_nsl bnd.eq_def evs_nil evs_cons aBuild.eq_def aFill splice.eq_def cells_agg cells_int cells_bool cells_str cells_nil cells_nsl cells_isl cells_osl cells_ptr cells_ip cells_fn cells_Wd one_int one_bool one_str one_nil one_nsl one_isl one_osl one_ptr one_ip one_fn one_Wd aSets hupd_eq hupd_ne wrap_i64s wrap_u64s wrap_u32s wrap_u8s wd_getD wd_set wd_len wd_replicate wd_one wd_fold fz_osl hupd_same aSix.eq_def aEqS.eq_def aEqB_bool aEqB_nsl aEqB_nil
attribute [local simp] szT2 byT2 agT2 unT2 zoT2 szT3 byT3 agT3 unT3 zoT3 szT4 byT4 agT4 unT4 zoT4 szT26 byT26 agT26 flT26 fdT26_0 fdT26_1 fdT26_2 fdT26_3 zoT26 szT28 byT28 agT28 flT28 fdT28_0 fdT28_1 fdT28_2 zoT28 szT67 byT67 agT67 flT67 fdT67_0 fdT67_1 zoT67 szT69 byT69 agT69 flT69 fdT69_0 fdT69_1 zoT69 szT117 byT117 agT117 elT117 unT117 zoT117 szT119 byT119 agT119 flT119 fdT119_0 fdT119_1 zoT119 szT121 byT121 agT121 flT121 fdT121_0 fdT121_1 fdT121_2 zoT121

theorem hbNone : hasBody Try.prog 186 = true := by kernel_rfl
theorem mul_sg (a b : Int) : -1 ≤ sg3 a * sg3 b ∧ sg3 a * sg3 b ≤ 1 := by
  have := sg3_b a; have := sg3_b b
  have := mul_b (u := sg3 a) (v := sg3 b) (m := 1) (n := 1) (by omega) (by omega) (by omega) (by omega) (by omega)
  omega
theorem lsS_dec2 (p q : Sp) : decide (0 < cmS p q) = lsS q p := by rw [Bool.eq_iff_iff, decide_eq_true_eq]; exact cmS_pos
theorem cmS_deq (p q : Sp) : (cmS p q == 0) = decide (p = q) := by rw [Bool.eq_iff_iff, beq_iff_eq, decide_eq_true_eq]; exact cmS_zero

set_option maxHeartbeats 8000000 in
theorem meetI_fc (u v : Sg) (gu : u.good = true) (gv : v.good = true) : FC Try.prog 98 [u.av, v.av] (.tup [.int .i64 (meetI u v).1, .agg [.int .u64 ((meetI u v).2.1).x.a, .int .u64 ((meetI u v).2.1).x.b, .int .u64 ((meetI u v).2.1).x.c, .int .u64 ((meetI u v).2.1).x.d, .int .u64 ((meetI u v).2.1).y.a, .int .u64 ((meetI u v).2.1).y.b, .int .u64 ((meetI u v).2.1).y.c, .int .u64 ((meetI u v).2.1).y.d, .int .u64 ((meetI u v).2.1).w.a, .int .u64 ((meetI u v).2.1).w.b, .int .u64 ((meetI u v).2.1).w.c, .int .u64 ((meetI u v).2.1).w.d], .agg [.int .u64 ((meetI u v).2.2).x.a, .int .u64 ((meetI u v).2.2).x.b, .int .u64 ((meetI u v).2.2).x.c, .int .u64 ((meetI u v).2.2).x.d, .int .u64 ((meetI u v).2.2).y.a, .int .u64 ((meetI u v).2.2).y.b, .int .u64 ((meetI u v).2.2).y.c, .int .u64 ((meetI u v).2.2).y.d, .int .u64 ((meetI u v).2.2).w.a, .int .u64 ((meetI u v).2.2).w.b, .int .u64 ((meetI u v).2.2).w.c, .int .u64 ((meetI u v).2.2).w.d]]) := by
  have ua := good_a gu
  have ub := good_b gu
  have va := good_a gv
  have vb := good_b gv
  have pua := Sp.b ua
  have pub := Sp.b ub
  have pva := Sp.b va
  have pvb := Sp.b vb
  obtain ⟨A, hA⟩ : ∃ A, crs u.a u.b v.a = A := ⟨_, rfl⟩
  obtain ⟨B, hB⟩ : ∃ B, crs u.a u.b v.b = B := ⟨_, rfl⟩
  obtain ⟨C, hC⟩ : ∃ C, crs v.a v.b u.a = C := ⟨_, rfl⟩
  obtain ⟨D, hD⟩ : ∃ D, crs v.a v.b u.b = D := ⟨_, rfl⟩
  have cA := cross_fc u.a u.b v.a ua ub va
  have cB := cross_fc u.a u.b v.b ua ub vb
  have cC := cross_fc v.a v.b u.a va vb ua
  have cD := cross_fc v.a v.b u.b va vb ub
  have bA := crs_b ua ub va
  have bB := crs_b ua ub vb
  rw [hA] at cA bA
  rw [hB] at cB bB
  rw [hC] at cC
  rw [hD] at cD
  have hnw : noWay u v = (decide (0 < sg3 A * sg3 B) || decide (0 < sg3 C * sg3 D)) := by unfold noWay; rw [hA, hB, hC, hD]
  have hmt : apart u v = true → meetI u v = (0, pt0, pt0) := fun h => by unfold meetI; rw [if_pos h]
  have hmf : apart u v = false → meetI u v = if A = 0 ∧ B = 0 then linP u v else if noWay u v = true then (0, pt0, pt0) else (1, mkP (wayX u v) (wayY u v) (wayW u v), pt0) := fun h => by unfold meetI; rw [h, hA, hB]; rfl
  have hap : apart u v = (decide (mn u.b.x v.b.x < mx u.a.x v.a.x) || decide (mn (mx u.a.y u.b.y) (mx v.a.y v.b.y) < mx (mn u.a.y u.b.y) (mn v.a.y v.b.y))) := rfl
  have eW : wayW u v = A - B := by unfold wayW; rw [hA, hB]
  have eX : wayX u v = v.a.x * (A - B) + A * (v.b.x - v.a.x) := by unfold wayX; rw [eW, hA]
  have eY : wayY u v = v.a.y * (A - B) + A * (v.b.y - v.a.y) := by unfold wayY; rw [eW, hA]
  have sAB := mul_sg A B
  have sCD := mul_sg C D
  clear hA hB hC hD
  refine FC.body Try.func98 rfl (by simp [idfL, idf, Sp.av, Sp.cells, Sg.av, Sg.cells]) (by simp [idfL, idf, idfLL_iff, idf_Wd', idf_numI, cells_numI, numI_fold, Sp.av, Sp.cells, Sg.av, Sg.cells, spA, spC]) 215 rfl fun nx K hK => ?_
  refine AWP.seqk fun K1 hK1 => ?_
  refine AWP.region (AOPS.all (by simp (disch := first|omega|(simp only[ln];omega)) [idf_Wd', idf_numI, cells_numI, numI_fold, Sp.av, Sp.cells, Sg.av, Sg.cells, spA, spC]; rfl) ?_)
  refine hK1 _ ?_
  refine AWP.seqk fun K2 hK2 => ?_
  refine AWP.region (AOPS.all (by simp (disch := first|omega|(simp only[ln];omega)) [idf_Wd', idf_numI, cells_numI, numI_fold, Sp.av, Sp.cells, Sg.av, Sg.cells, spA, spC]; rfl) ?_)
  refine hK2 _ ?_
  refine AWP.seqk fun K3 hK3 => ?_
  refine AWP.seqk fun K4 hK4 => ?_
  cases q1 : decide (mn u.b.x v.b.x < mx u.a.x v.a.x)
  · refine AWP.region (AOPS.all (by simp (disch := first|omega|(simp only[ln];omega)) [idf_Wd', idf_numI, cells_numI, numI_fold, Sp.av, Sp.cells, Sg.av, Sg.cells, spA, spC, mx_fold, mn_fold, q1]; rfl) ?_)
    refine hK4 _ ?_
    refine cond_ok (decide (mn (mx u.a.y u.b.y) (mx v.a.y v.b.y) < mx (mn u.a.y u.b.y) (mn v.a.y v.b.y))) (by simp (disch := first|omega|(simp only[ln];omega))) (fun h67 => ?_) (fun h67 => ?_)
    · try simp only [decide_eq_true_eq, decide_eq_false_iff_not] at h67
      have hm := hmt (by rw [hap, decide_eq_true h67]; simp)
      refine AWP.seqk fun K5 hK5 => ?_
      refine AWP.region ?_
      refine AOPS.runk 1 (by simp (disch := first|omega|(simp only[ln];omega)) [List.take_succ_cons, List.take_zero, idf_Wd', idf_numI, cells_numI, numI_fold, Sp.av, Sp.cells, Sg.av, Sg.cells, spA, spC]; rfl) ?_
      simp only [List.drop_succ_cons, List.drop_zero]
      refine AOPS.fcall (none_fc) rfl rfl (by simp; rfl) hbNone (by simp (disch := first|omega|(simp only[ln];omega)) [idf_Wd', idf_numI, cells_numI, numI_fold, Sp.av, Sp.cells, Sg.av, Sg.cells, spA, spC]) (by simp (disch := first|omega|(simp only[ln];omega))) (by simp) ?_
      simp only [puts_some, updo]
      refine AOPS.all (by simp (disch := first|omega|(simp only[ln];omega)) [idf_Wd', idf_numI, cells_numI, numI_fold, Sp.av, Sp.cells, Sg.av, Sg.cells, spA, spC]; rfl) ?_
      refine hK5 _ ?_
      refine AWP.ret ?_
      exact hK _ _ _ _ trivial ((Fin.mk (by simp [aRes, aResL, aRes1, idf_Wd', idf_numI, cells_numI, numI_fold, Sp.av, Sp.cells, Sg.av, Sg.cells, spA, spC]; rfl)).cast (by rw [hm]; try rfl))
    · try simp only [decide_eq_true_eq, decide_eq_false_iff_not] at h67
      have hm := hmf (by rw [hap, q1, decide_eq_false h67]; rfl)
      refine AWP.skip ?_
      refine hK3 _ ?_
      refine AWP.seqk fun K6 hK6 => ?_
      refine AWP.draw 14 Try.checked.mixed (by kernel_rfl) (by simp) ?_
      simp only [List.take_succ_cons, List.take_zero, List.drop_succ_cons, List.drop_zero]
      refine DP.runFk 6 (by simp (disch := first|omega|(simp only[ln];omega)) [runDf.eq_def, runF1, runF2, stepF.eq_def, updo.eq_def, hupo.eq_def, opSto1.eq_def, List.take_succ_cons, List.take_zero, idf_Wd', idf_numI, cells_numI, numI_fold, Sp.av, Sp.cells, Sg.av, Sg.cells, spA, spC]; rfl) fun fs7 hfs7 => ?_
      replace hfs7 : fs7.length = 6 := hfs7.trans rfl
      simp only [List.drop_succ_cons, List.drop_zero]
      refine DP.fcall (cA) rfl rfl rfl hb187 (by simp (disch := first|omega|(simp only[ln];omega)) [idf_Wd', idf_numI, cells_numI, numI_fold, Sp.av, Sp.cells, Sg.av, Sg.cells, spA, spC]) (by simp (disch := first|omega|(simp only[ln];omega))) (by simp) ?_
      simp only [updo]
      refine DP.runFk 6 (by simp (disch := first|omega|(simp only[ln];omega)) [runDf.eq_def, runF1, runF2, stepF.eq_def, updo.eq_def, hupo.eq_def, opSto1.eq_def, List.take_succ_cons, List.take_zero, idf_Wd', idf_numI, cells_numI, numI_fold, Sp.av, Sp.cells, Sg.av, Sg.cells, spA, spC]; rfl) fun fs8 hfs8 => ?_
      replace hfs8 : fs8.length = 6 := hfs8.trans rfl
      simp only [List.drop_succ_cons, List.drop_zero]
      refine DP.fcall (cB) rfl rfl rfl hb187 (by simp (disch := first|omega|(simp only[ln];omega)) [idf_Wd', idf_numI, cells_numI, numI_fold, Sp.av, Sp.cells, Sg.av, Sg.cells, spA, spC]) (by simp (disch := first|omega|(simp only[ln];omega))) (by simp) ?_
      simp only [updo]
      refine DQ.runF (m := 14) (by simp only [List.length_append, List.length_cons, List.length_nil, hfs7, hfs8]; omega) _ _ _ (by kernel_rfl) rfl (by simp (disch := first|omega|(simp only[ln];omega)) [runDf.eq_def, runF1, runF2, stepF.eq_def, updo.eq_def, hupo.eq_def, opSto1.eq_def, idf_Wd', idf_numI, cells_numI, numI_fold, Sp.av, Sp.cells, Sg.av, Sg.cells, spA, spC]; rfl) ?_
      refine hK6 _ ?_
      refine AWP.seqk fun K9 hK9 => ?_
      refine AWP.seqk fun K10 hK10 => ?_
      by_cases hA0 : A = 0
      · have c1 : (A == 0) = true := by simp [hA0]
        by_cases hB0 : B = 0
        · have c2 : (B == 0) = true := by simp [hB0]
          have hm' := hm
          rw [if_pos ⟨hA0, hB0⟩] at hm'
          refine AWP.region (AOPS.all (by simp (disch := first|omega|(simp only[ln];omega)) [idf_Wd', idf_numI, cells_numI, numI_fold, Sp.av, Sp.cells, Sg.av, Sg.cells, spA, spC, c1, c2]; rfl) ?_)
          refine hK10 _ ?_
          refine cond_ok _ (by simp (disch := first|omega|(simp only[ln];omega)); rfl) (fun h92 => ?_) (fun h92 => ?_)
          · try simp only [decide_eq_true_eq, decide_eq_false_iff_not] at h92
            refine AWP.seqk fun K11 hK11 => ?_
            refine AWP.old fun hold => ?_
            refine AWP.draw 6 Try.checked.mixed (by kernel_rfl) (by simp) ?_
            simp only [List.take_succ_cons, List.take_zero, List.drop_succ_cons, List.drop_zero]
            refine DP.runFk 2 (by simp (disch := first|omega|(simp only[ln];omega)) [runDf.eq_def, runF1, runF2, stepF.eq_def, updo.eq_def, hupo.eq_def, opSto1.eq_def, List.take_succ_cons, List.take_zero, idf_Wd', idf_numI, cells_numI, numI_fold, Sp.av, Sp.cells, Sg.av, Sg.cells, spA, spC]; rfl) fun fs12 hfs12 => ?_
            replace hfs12 : fs12.length = 2 := hfs12.trans rfl
            simp only [List.drop_succ_cons, List.drop_zero]
            refine DP.runF1q (by simp (disch := first|omega|(simp only[ln];omega)) [runDf.eq_def, runF1, runF2, stepF.eq_def, updo.eq_def, hupo.eq_def, opSto1.eq_def, idf_Wd', idf_numI, cells_numI, numI_fold, Sp.av, Sp.cells, Sg.av, Sg.cells, spA, spC]; rfl) fun fq13 hfq13 => ?_
            simp [qids, asksB, Op.operands, topId] at hfq13
            simp only [updo]
            refine DP.runF1q (by simp (disch := first|omega|(simp only[ln];omega)) [runDf.eq_def, runF1, runF2, stepF.eq_def, updo.eq_def, hupo.eq_def, opSto1.eq_def, idf_Wd', idf_numI, cells_numI, numI_fold, Sp.av, Sp.cells, Sg.av, Sg.cells, spA, spC]; rfl) fun fq14 hfq14 => ?_
            simp [qids, asksB, Op.operands, topId] at hfq14
            simp only [updo]
            refine DP.runFk 2 (by simp (disch := first|omega|(simp only[ln];omega)) [runDf.eq_def, runF1, runF2, stepF.eq_def, updo.eq_def, hupo.eq_def, opSto1.eq_def, List.take_succ_cons, List.take_zero, idf_Wd', idf_numI, cells_numI, numI_fold, Sp.av, Sp.cells, Sg.av, Sg.cells, spA, spC]; rfl) fun fs15 hfs15 => ?_
            replace hfs15 : fs15.length = 2 := hfs15.trans rfl
            simp only [List.drop_succ_cons, List.drop_zero]
            refine DQ.sto1 (m := 6) [2, 3] _ (by simp (disch := first|omega|(simp only[ln];omega)) [runDf.eq_def, runF1, runF2, stepF.eq_def, updo.eq_def, hupo.eq_def, opSto1.eq_def, idf_Wd', idf_numI, cells_numI, numI_fold, Sp.av, Sp.cells, Sg.av, Sg.cells, spA, spC]; rfl) rfl (by simp only [List.length_append, List.length_cons, List.length_nil, hfs12, hfs15]; omega) (by kernel_rfl) (by intro k f hk hex; simp only [List.mem_cons, List.not_mem_nil, or_false] at hex; rcases hex with rfl | rfl <;> (simp [List.getElem?_append, hfs12, hfs15] at hk; subst hk; refine ⟨?_, by first | omega | (simp; done) | (simp; omega)⟩; simp [qids, asksB, Op.operands, Call.operands, topId, numS, numI, Wd, hfq13, hfq14]; try omega)) ?_
            try simp only []
            refine DQ.sto1 (m := 6) [] _ (by simp (disch := first|omega|(simp only[ln];omega)) [runDf.eq_def, runF1, runF2, stepF.eq_def, updo.eq_def, hupo.eq_def, opSto1.eq_def, idf_Wd', idf_numI, cells_numI, numI_fold, Sp.av, Sp.cells, Sg.av, Sg.cells, spA, spC]; rfl) rfl (by simp only [List.length_append, List.length_cons, List.length_nil, hfs12, hfs15]; omega) (by kernel_rfl) (by intro k f hk hex; simp only [List.not_mem_nil] at hex) ?_
            try simp only []
            refine hK11 _ ?_
            refine AWP.seqk fun K16 hK16 => ?_
            have J16 : ∀ s : St, (∃ (lo hi : Sp) (ia ib : Nat), lo = lowS u v ∧ hi = u.b ∧ s.env 2 = .ptr nx 0 0 ∧ s.env 3 = .ptr (nx + 1) 0 0 ∧ s.env 5 = .ptr (nx + 1 + 1) 0 0 ∧ s.env 6 = .ptr (nx + 1 + 1 + 1) 0 0 ∧ s.env 7 = .fn 186 [] ∧ s.env 10 = .ptr ia 0 0 ∧ s.env 11 = .ptr ib 0 0 ∧ s.heap nx = some (4, [[.int .i64 u.a.x, .int .i64 u.a.y, .int .i64 u.b.x, .int .i64 u.b.y]]) ∧ s.heap (nx + 1) = some (4, [[.int .i64 v.a.x, .int .i64 v.a.y, .int .i64 v.b.x, .int .i64 v.b.y]]) ∧ s.heap (nx + 1 + 1) = some (12, [[.int .u64 0, .int .u64 0, .int .u64 0, .int .u64 0, .int .u64 0, .int .u64 0, .int .u64 0, .int .u64 0, .int .u64 0, .int .u64 0, .int .u64 0, .int .u64 0]]) ∧ s.heap (nx + 1 + 1 + 1) = some (12, [[.int .u64 0, .int .u64 0, .int .u64 0, .int .u64 0, .int .u64 0, .int .u64 0, .int .u64 0, .int .u64 0, .int .u64 0, .int .u64 0, .int .u64 0, .int .u64 0]]) ∧ s.heap ia = some (2, [[.int .i64 lo.x, .int .i64 lo.y]]) ∧ s.heap ib = some (2, [[.int .i64 hi.x, .int .i64 hi.y]]) ∧ (nx + 1 + 1 + 1) < ia ∧ ia < ib ∧ ib < s.nx ∧ s.nt = 215) → K16 s := by
              rintro ⟨e, H, mm, nt⟩ ⟨lo, hi, ia, ib, hlo, hhi, g2, g3, g5, g6, g7, g10, g11, hU, hV, hP, hQ, hL, hH, hia, hib, hm, rfl⟩
              simp only [] at g2 g3 g5 g6 g7 g10 g11 hU hV hP hQ hL hH hia hib hm
              rw [hhi] at hH
              clear hhi hi
              refine hK16 _ ?_
              refine AWP.seqk fun K17 hK17 => ?_
              have J17 : ∀ s : St, (∃ (lo hi : Sp) (ia ib : Nat), lo = lowS u v ∧ hi = highS u v ∧ s.env 2 = .ptr nx 0 0 ∧ s.env 3 = .ptr (nx + 1) 0 0 ∧ s.env 5 = .ptr (nx + 1 + 1) 0 0 ∧ s.env 6 = .ptr (nx + 1 + 1 + 1) 0 0 ∧ s.env 7 = .fn 186 [] ∧ s.env 10 = .ptr ia 0 0 ∧ s.env 11 = .ptr ib 0 0 ∧ s.heap nx = some (4, [[.int .i64 u.a.x, .int .i64 u.a.y, .int .i64 u.b.x, .int .i64 u.b.y]]) ∧ s.heap (nx + 1) = some (4, [[.int .i64 v.a.x, .int .i64 v.a.y, .int .i64 v.b.x, .int .i64 v.b.y]]) ∧ s.heap (nx + 1 + 1) = some (12, [[.int .u64 0, .int .u64 0, .int .u64 0, .int .u64 0, .int .u64 0, .int .u64 0, .int .u64 0, .int .u64 0, .int .u64 0, .int .u64 0, .int .u64 0, .int .u64 0]]) ∧ s.heap (nx + 1 + 1 + 1) = some (12, [[.int .u64 0, .int .u64 0, .int .u64 0, .int .u64 0, .int .u64 0, .int .u64 0, .int .u64 0, .int .u64 0, .int .u64 0, .int .u64 0, .int .u64 0, .int .u64 0]]) ∧ s.heap ia = some (2, [[.int .i64 lo.x, .int .i64 lo.y]]) ∧ s.heap ib = some (2, [[.int .i64 hi.x, .int .i64 hi.y]]) ∧ (nx + 1 + 1 + 1) < ia ∧ ia < ib ∧ ib < s.nx ∧ s.nt = 215) → K17 s := by
                clear g2 g3 g5 g6 g7 g10 g11 hU hV hP hQ hL hH hia hib hm hlo lo
                rintro ⟨e, H, mm, nt⟩ ⟨lo, hi, ia, ib, hlo, hhi, g2, g3, g5, g6, g7, g10, g11, hU, hV, hP, hQ, hL, hH, hia, hib, hm, rfl⟩
                simp only [] at g2 g3 g5 g6 g7 g10 g11 hU hV hP hQ hL hH hia hib hm
                have gl : lo.good = true := by rw [hlo]; unfold lowS; split; exact va; exact ua
                have gh : hi.good = true := by rw [hhi]; unfold highS; split; exact vb; exact ub
                have hli : linP u v = if lsS hi lo = true then (0, pt0, pt0) else if lo = hi then (1, ptS lo, pt0) else (2, ptS lo, ptS hi) := by rw [hlo, hhi]; rfl
                clear hlo hhi
                refine hK17 _ ?_
                refine AWP.seqk fun K18 hK18 => ?_
                refine AWP.seqk fun K19 hK19 => ?_
                refine AWP.region ?_
                refine AOPS.runk 2 (by simp (disch := first|omega|(simp only[ln];omega)) [List.take_succ_cons, List.take_zero, idf_Wd', idf_numI, cells_numI, numI_fold, Sp.av, Sp.cells, Sg.av, Sg.cells, spA, spC, g2, g3, g5, g6, g7, g10, g11, hU, hV, hP, hQ, hL, hH]; rfl) ?_
                simp only [List.drop_succ_cons, List.drop_zero]
                refine AOPS.fcall (cmpSpots_fc lo hi) rfl rfl rfl hb134 (by simp (disch := first|omega|(simp only[ln];omega)) [idf_Wd', g2, g3, g5, g6, g7, g10, g11, hU, hV, hP, hQ, hL, hH, idf_numI, cells_numI, numI_fold, Sp.av, Sp.cells, Sg.av, Sg.cells, spA, spC]) (by simp (disch := first|omega|(simp only[ln];omega)) [g2, g3, g5, g6, g7, g10, g11, hU, hV, hP, hQ, hL, hH]) (by simp) ?_
                simp only [puts_some, updo]
                refine AOPS.all (by simp (disch := first|omega|(simp only[ln];omega)) [idf_Wd', idf_numI, cells_numI, numI_fold, Sp.av, Sp.cells, Sg.av, Sg.cells, spA, spC, g2, g3, g5, g6, g7, g10, g11, hU, hV, hP, hQ, hL, hH]; rfl) ?_
                refine hK19 _ ?_
                refine AWP.block ?_
                refine AWP.seqk fun K20 hK20 => ?_
                refine AWP.region (AOPS.all (by simp (disch := first|omega|(simp only[ln];omega)) [idf_Wd', idf_numI, cells_numI, numI_fold, Sp.av, Sp.cells, Sg.av, Sg.cells, spA, spC]; rfl) ?_)
                refine hK20 _ ?_
                refine cond_ok (lsS hi lo) (by simp (disch := first|omega|(simp only[ln];omega)) [lsS_dec2]) (fun h114 => ?_) (fun h114 => ?_)
                · try simp only [decide_eq_true_eq, decide_eq_false_iff_not] at h114
                  refine AWP.seqk fun K21 hK21 => ?_
                  refine AWP.region ?_
                  refine AOPS.runk 1 (by simp (disch := first|omega|(simp only[ln];omega)) [List.take_succ_cons, List.take_zero, idf_Wd', idf_numI, cells_numI, numI_fold, Sp.av, Sp.cells, Sg.av, Sg.cells, spA, spC, g2, g3, g5, g6, g7, g10, g11, hU, hV, hP, hQ, hL, hH]; rfl) ?_
                  simp only [List.drop_succ_cons, List.drop_zero]
                  refine AOPS.fcall (none_fc) rfl rfl (by simp; rfl) hbNone (by simp (disch := first|omega|(simp only[ln];omega)) [idf_Wd', g2, g3, g5, g6, g7, g10, g11, hU, hV, hP, hQ, hL, hH, idf_numI, cells_numI, numI_fold, Sp.av, Sp.cells, Sg.av, Sg.cells, spA, spC]) (by simp (disch := first|omega|(simp only[ln];omega)) [g2, g3, g5, g6, g7, g10, g11, hU, hV, hP, hQ, hL, hH]) (by simp) ?_
                  simp only [puts_some, updo]
                  refine AOPS.all (by simp (disch := first|omega|(simp only[ln];omega)) [idf_Wd', idf_numI, cells_numI, numI_fold, Sp.av, Sp.cells, Sg.av, Sg.cells, spA, spC, g2, g3, g5, g6, g7, g10, g11, hU, hV, hP, hQ, hL, hH]; rfl) ?_
                  refine hK21 _ ?_
                  refine AWP.ret ?_
                  exact hK _ _ _ _ trivial ((Fin.mk (by simp (disch := omega) [aRes, aResL, aRes1, g5, g6, idf_Wd', idf_numI, cells_numI, numI_fold, Sp.av, Sp.cells, Sg.av, Sg.cells, spA, spC]; rfl)).cast (by rw [hm', hli, if_pos h114]; try rfl))
                · try simp only [decide_eq_true_eq, decide_eq_false_iff_not] at h114
                  refine AWP.seqk fun K22 hK22 => ?_
                  refine AWP.region (AOPS.all (by simp (disch := first|omega|(simp only[ln];omega)) [idf_Wd', idf_numI, cells_numI, numI_fold, Sp.av, Sp.cells, Sg.av, Sg.cells, spA, spC]; rfl) ?_)
                  refine hK22 _ ?_
                  refine cond_ok (decide (lo = hi)) (by simp (disch := first|omega|(simp only[ln];omega)) [cmS_deq]) (fun h122 => ?_) (fun h122 => ?_)
                  · try simp only [decide_eq_true_eq, decide_eq_false_iff_not] at h122
                    refine AWP.seqk fun K23 hK23 => ?_
                    refine AWP.region ?_
                    refine AOPS.runk 1 (by simp (disch := first|omega|(simp only[ln];omega)) [List.take_succ_cons, List.take_zero, idf_Wd', idf_numI, cells_numI, numI_fold, Sp.av, Sp.cells, Sg.av, Sg.cells, spA, spC, g2, g3, g5, g6, g7, g10, g11, hU, hV, hP, hQ, hL, hH]; rfl) ?_
                    simp only [List.drop_succ_cons, List.drop_zero]
                    refine AOPS.fcall (pointOfI_fc lo gl) rfl rfl rfl hb50 (by simp (disch := first|omega|(simp only[ln];omega)) [idf_Wd', g2, g3, g5, g6, g7, g10, g11, hU, hV, hP, hQ, hL, hH, idf_numI, cells_numI, numI_fold, Sp.av, Sp.cells, Sg.av, Sg.cells, spA, spC]) (by simp (disch := first|omega|(simp only[ln];omega)) [g2, g3, g5, g6, g7, g10, g11, hU, hV, hP, hQ, hL, hH]) (by simp) ?_
                    simp only [puts_some, updo]
                    refine AOPS.all (by simp (disch := first|omega|(simp only[ln];omega)) [idf_Wd', idf_numI, cells_numI, numI_fold, Sp.av, Sp.cells, Sg.av, Sg.cells, spA, spC, g2, g3, g5, g6, g7, g10, g11, hU, hV, hP, hQ, hL, hH]; rfl) ?_
                    refine hK23 _ ?_
                    refine AWP.ret ?_
                    exact hK _ _ _ _ trivial ((Fin.mk (by simp (disch := omega) [aRes, aResL, aRes1, g5, g6, idf_Wd', idf_numI, cells_numI, numI_fold, Sp.av, Sp.cells, Sg.av, Sg.cells, spA, spC]; rfl)).cast (by rw [hm', hli, if_neg (by rw [h114]; simp), if_pos h122]; try rfl))
                  · try simp only [decide_eq_true_eq, decide_eq_false_iff_not] at h122
                    refine AWP.skip ?_
                    refine hK18 _ ?_
                    refine AWP.seqk fun K24 hK24 => ?_
                    refine AWP.old fun hold => ?_
                    refine AWP.draw 4 Try.checked.mixed (by kernel_rfl) (by simp) ?_
                    simp only [List.take_succ_cons, List.take_zero, List.drop_succ_cons, List.drop_zero]
                    refine DP.runFk 1 (by simp (disch := first|omega|(simp only[ln];omega)) [runDf.eq_def, runF1, runF2, stepF.eq_def, updo.eq_def, hupo.eq_def, opSto1.eq_def, List.take_succ_cons, List.take_zero, idf_Wd', idf_numI, cells_numI, numI_fold, Sp.av, Sp.cells, Sg.av, Sg.cells, spA, spC, g2, g3, g5, g6, g7, g10, g11, hU, hV, hP, hQ, hL, hH]; rfl) fun fs25 hfs25 => ?_
                    replace hfs25 : fs25.length = 1 := hfs25.trans rfl
                    simp only [List.drop_succ_cons, List.drop_zero]
                    refine DP.fcall (pointOfI_fc lo gl) rfl rfl rfl hb50 (by simp (disch := first|omega|(simp only[ln];omega)) [idf_Wd', g2, g3, g5, g6, g7, g10, g11, hU, hV, hP, hQ, hL, hH, idf_numI, cells_numI, numI_fold, Sp.av, Sp.cells, Sg.av, Sg.cells, spA, spC]) (by simp (disch := first|omega|(simp only[ln];omega)) [g2, g3, g5, g6, g7, g10, g11, hU, hV, hP, hQ, hL, hH]) (by simp) ?_
                    simp only [updo]
                    refine DP.runF1q (by simp (disch := first|omega|(simp only[ln];omega)) [runDf.eq_def, runF1, runF2, stepF.eq_def, updo.eq_def, hupo.eq_def, opSto1.eq_def, idf_Wd', idf_numI, cells_numI, numI_fold, Sp.av, Sp.cells, Sg.av, Sg.cells, spA, spC, g2, g3, g5, g6, g7, g10, g11, hU, hV, hP, hQ, hL, hH]; rfl) fun fq26 hfq26 => ?_
                    simp [qids, asksB, Op.operands, topId] at hfq26
                    simp only [updo]
                    refine DP.fcall (pointOfI_fc hi gh) rfl rfl rfl hb50 (by simp (disch := first|omega|(simp only[ln];omega)) [idf_Wd', g2, g3, g5, g6, g7, g10, g11, hU, hV, hP, hQ, hL, hH, idf_numI, cells_numI, numI_fold, Sp.av, Sp.cells, Sg.av, Sg.cells, spA, spC]) (by simp (disch := first|omega|(simp only[ln];omega)) [g2, g3, g5, g6, g7, g10, g11, hU, hV, hP, hQ, hL, hH]) (by simp) ?_
                    simp only [updo]
                    refine DQ.asg1 _ rfl rfl ?_
                    simp only [updo]
                    refine DQ.sto1 (m := 4) [2, 3] _ (by simp (disch := first|omega|(simp only[ln];omega)) [runDf.eq_def, runF1, runF2, stepF.eq_def, updo.eq_def, hupo.eq_def, opSto1.eq_def, idf_Wd', idf_numI, cells_numI, numI_fold, Sp.av, Sp.cells, Sg.av, Sg.cells, spA, spC, g2, g3, g5, g6, g7, g10, g11, hU, hV, hP, hQ, hL, hH]; rfl) rfl (by simp only [List.length_append, List.length_cons, List.length_nil, hfs25]; omega) (by kernel_rfl) (by intro k f hk hex; simp only [List.mem_cons, List.not_mem_nil, or_false] at hex; rcases hex with rfl | rfl <;> (simp [List.getElem?_append, hfs25] at hk; subst hk; refine ⟨?_, by first | omega | (simp; done) | (simp; omega)⟩; simp [qids, asksB, Op.operands, Call.operands, topId, numS, numI, Wd, hfq26, g2, g3, g5, g6, g7, g10, g11]; try omega)) ?_
                    try simp only []
                    refine DQ.sto1 (m := 4) [] _ (by simp (disch := first|omega|(simp only[ln];omega)) [runDf.eq_def, runF1, runF2, stepF.eq_def, updo.eq_def, hupo.eq_def, opSto1.eq_def, idf_Wd', idf_numI, cells_numI, numI_fold, Sp.av, Sp.cells, Sg.av, Sg.cells, spA, spC, g2, g3, g5, g6, g7, g10, g11, hU, hV, hP, hQ, hL, hH]; rfl) rfl (by simp only [List.length_append, List.length_cons, List.length_nil, hfs25]; omega) (by kernel_rfl) (by intro k f hk hex; simp only [List.not_mem_nil] at hex) ?_
                    try simp only []
                    refine hK24 _ ?_
                    refine AWP.ret ?_
                    exact hK _ _ _ _ trivial ((Fin.mk (by simp (disch := omega) [aRes, aResL, aRes1, g5, g6, idf_Wd', idf_numI, cells_numI, numI_fold, Sp.av, Sp.cells, Sg.av, Sg.cells, spA, spC]; rfl)).cast (by rw [hm', hli, if_neg (by rw [h114]; simp), if_neg h122]; try rfl))
              refine AWP.seqk fun K27 hK27 => ?_
              refine AWP.region ?_
              refine AOPS.runk 3 (by simp (disch := first|omega|(simp only[ln];omega)) [List.take_succ_cons, List.take_zero, idf_Wd', idf_numI, cells_numI, numI_fold, Sp.av, Sp.cells, Sg.av, Sg.cells, spA, spC, g2, g3, g5, g6, g7, g10, g11, hU, hV, hP, hQ, hL, hH]; rfl) ?_
              simp only [List.drop_succ_cons, List.drop_zero]
              refine AOPS.fcall (cmpSpots_fc v.b u.b) rfl rfl rfl hb134 (by simp (disch := first|omega|(simp only[ln];omega)) [idf_Wd', g2, g3, g5, g6, g7, g10, g11, hU, hV, hP, hQ, hL, hH, idf_numI, cells_numI, numI_fold, Sp.av, Sp.cells, Sg.av, Sg.cells, spA, spC]) (by simp (disch := first|omega|(simp only[ln];omega)) [g2, g3, g5, g6, g7, g10, g11, hU, hV, hP, hQ, hL, hH]) (by simp) ?_
              simp only [puts_some, updo]
              refine AOPS.all (by simp (disch := first|omega|(simp only[ln];omega)) [idf_Wd', idf_numI, cells_numI, numI_fold, Sp.av, Sp.cells, Sg.av, Sg.cells, spA, spC, g2, g3, g5, g6, g7, g10, g11, hU, hV, hP, hQ, hL, hH]; rfl) ?_
              refine hK27 _ ?_
              refine cond_ok (lsS v.b u.b) (by simp (disch := first|omega|(simp only[ln];omega)) [lsS_dec]) (fun h108 => ?_) (fun h108 => ?_)
              · try simp only [decide_eq_true_eq, decide_eq_false_iff_not] at h108
                refine AWP.region (AOPS.all (by simp (disch := first|omega|(simp only[ln];omega)) [idf_Wd', idf_numI, cells_numI, numI_fold, Sp.av, Sp.cells, Sg.av, Sg.cells, spA, spC, g2, g3, g5, g6, g7, g10, g11, hU, hV, hP, hQ, hL, hH]; rfl) ?_)
                refine J17 _ ?_
                exact ⟨lo, v.b, ia, ib, hlo, by unfold highS; rw [if_pos h108], by first | (simp; done) | (simp [g2, g3, g5, g6, g7, g10, g11]; done), by first | (simp; done) | (simp [g2, g3, g5, g6, g7, g10, g11]; done), by first | (simp; done) | (simp [g2, g3, g5, g6, g7, g10, g11]; done), by first | (simp; done) | (simp [g2, g3, g5, g6, g7, g10, g11]; done), by first | (simp; done) | (simp [g2, g3, g5, g6, g7, g10, g11]; done), by first | (simp; done) | (simp [g2, g3, g5, g6, g7, g10, g11]; done), by first | (simp; done) | (simp [g2, g3, g5, g6, g7, g10, g11]; done), by first | (simp (disch := omega); done) | (simp (disch := omega) [hU, hV, hP, hQ, hL, hH]; done), by first | (simp (disch := omega); done) | (simp (disch := omega) [hU, hV, hP, hQ, hL, hH]; done), by first | (simp (disch := omega); done) | (simp (disch := omega) [hU, hV, hP, hQ, hL, hH]; done), by first | (simp (disch := omega); done) | (simp (disch := omega) [hU, hV, hP, hQ, hL, hH]; done), by first | (simp (disch := omega); done) | (simp (disch := omega) [hU, hV, hP, hQ, hL, hH]; done), by first | (simp (disch := omega); done) | (simp (disch := omega) [hU, hV, hP, hQ, hL, hH]; done), by omega, by omega, by first | omega | (simp; done) | (simp; omega), rfl⟩
              · try simp only [decide_eq_true_eq, decide_eq_false_iff_not] at h108
                refine AWP.skip ?_
                refine J17 _ ?_
                exact ⟨lo, u.b, ia, ib, hlo, by unfold highS; rw [h108]; rfl, by first | (simp; done) | (simp [g2, g3, g5, g6, g7, g10, g11]; done), by first | (simp; done) | (simp [g2, g3, g5, g6, g7, g10, g11]; done), by first | (simp; done) | (simp [g2, g3, g5, g6, g7, g10, g11]; done), by first | (simp; done) | (simp [g2, g3, g5, g6, g7, g10, g11]; done), by first | (simp; done) | (simp [g2, g3, g5, g6, g7, g10, g11]; done), by first | (simp; done) | (simp [g2, g3, g5, g6, g7, g10, g11]; done), by first | (simp; done) | (simp [g2, g3, g5, g6, g7, g10, g11]; done), by first | (simp (disch := omega); done) | (simp (disch := omega) [hU, hV, hP, hQ, hL, hH]; done), by first | (simp (disch := omega); done) | (simp (disch := omega) [hU, hV, hP, hQ, hL, hH]; done), by first | (simp (disch := omega); done) | (simp (disch := omega) [hU, hV, hP, hQ, hL, hH]; done), by first | (simp (disch := omega); done) | (simp (disch := omega) [hU, hV, hP, hQ, hL, hH]; done), by first | (simp (disch := omega); done) | (simp (disch := omega) [hU, hV, hP, hQ, hL, hH]; done), by first | (simp (disch := omega); done) | (simp (disch := omega) [hU, hV, hP, hQ, hL, hH]; done), by omega, by omega, by first | omega | (simp; done) | (simp; omega), rfl⟩
            refine AWP.seqk fun K28 hK28 => ?_
            refine AWP.region ?_
            refine AOPS.runk 3 (by simp (disch := first|omega|(simp only[ln];omega)) [List.take_succ_cons, List.take_zero, idf_Wd', idf_numI, cells_numI, numI_fold, Sp.av, Sp.cells, Sg.av, Sg.cells, spA, spC]; rfl) ?_
            simp only [List.drop_succ_cons, List.drop_zero]
            refine AOPS.fcall (cmpSpots_fc v.a u.a) rfl rfl rfl hb134 (by simp (disch := first|omega|(simp only[ln];omega)) [idf_Wd', idf_numI, cells_numI, numI_fold, Sp.av, Sp.cells, Sg.av, Sg.cells, spA, spC]) (by simp (disch := first|omega|(simp only[ln];omega))) (by simp) ?_
            simp only [puts_some, updo]
            refine AOPS.all (by simp (disch := first|omega|(simp only[ln];omega)) [idf_Wd', idf_numI, cells_numI, numI_fold, Sp.av, Sp.cells, Sg.av, Sg.cells, spA, spC]; rfl) ?_
            refine hK28 _ ?_
            refine cond_ok (lsS u.a v.a) (by simp (disch := first|omega|(simp only[ln];omega)) [lsS_dec2]) (fun h101 => ?_) (fun h101 => ?_)
            · try simp only [decide_eq_true_eq, decide_eq_false_iff_not] at h101
              refine AWP.region (AOPS.all (by simp (disch := first|omega|(simp only[ln];omega)) [idf_Wd', idf_numI, cells_numI, numI_fold, Sp.av, Sp.cells, Sg.av, Sg.cells, spA, spC]; rfl) ?_)
              refine J16 _ ?_
              exact ⟨v.a, u.b, (nx + 1 + 1 + 1 + 1) + 16 + 4, (nx + 1 + 1 + 1 + 1) + 16 + 5, by unfold lowS; rw [if_pos h101], rfl, by simp, by simp, by simp, by simp, by simp, by simp, by simp, by simp (disch := omega), by simp (disch := omega), by simp (disch := omega), by simp (disch := omega), by simp (disch := omega), by simp (disch := omega), by omega, by omega, by first | omega | (simp; done) | (simp; omega), rfl⟩
            · try simp only [decide_eq_true_eq, decide_eq_false_iff_not] at h101
              refine AWP.skip ?_
              refine J16 _ ?_
              exact ⟨u.a, u.b, (nx + 1 + 1 + 1 + 1) + 16 + 4, (nx + 1 + 1 + 1 + 1) + 16 + 5, by unfold lowS; rw [h101]; rfl, rfl, by simp, by simp, by simp, by simp, by simp, by simp, by simp, by simp (disch := omega), by simp (disch := omega), by simp (disch := omega), by simp (disch := omega), by simp (disch := omega), by simp (disch := omega), by omega, by omega, by first | omega | (simp; done) | (simp; omega), rfl⟩
          · simp at h92
        · have c2 : (B == 0) = false := by simp [hB0]
          have hm' := hm
          rw [if_neg (fun h => hB0 h.2)] at hm'
          refine AWP.region (AOPS.all (by simp (disch := first|omega|(simp only[ln];omega)) [idf_Wd', idf_numI, cells_numI, numI_fold, Sp.av, Sp.cells, Sg.av, Sg.cells, spA, spC, c1, c2]; rfl) ?_)
          refine hK10 _ ?_
          refine cond_ok _ (by simp (disch := first|omega|(simp only[ln];omega)); rfl) (fun h92 => ?_) (fun h92 => ?_)
          · simp at h92
          · try simp only [decide_eq_true_eq, decide_eq_false_iff_not] at h92
            refine AWP.skip ?_
            refine hK9 _ ?_
            refine AWP.seqk fun K29 hK29 => ?_
            refine AWP.draw 14 Try.checked.mixed (by kernel_rfl) (by simp) ?_
            simp only [List.take_succ_cons, List.take_zero, List.drop_succ_cons, List.drop_zero]
            refine DP.runFk 6 (by simp (disch := first|omega|(simp only[ln];omega)) [runDf.eq_def, runF1, runF2, stepF.eq_def, updo.eq_def, hupo.eq_def, opSto1.eq_def, List.take_succ_cons, List.take_zero, idf_Wd', idf_numI, cells_numI, numI_fold, Sp.av, Sp.cells, Sg.av, Sg.cells, spA, spC]; rfl) fun fs30 hfs30 => ?_
            replace hfs30 : fs30.length = 6 := hfs30.trans rfl
            simp only [List.drop_succ_cons, List.drop_zero]
            refine DP.fcall (cC) rfl rfl rfl hb187 (by simp (disch := first|omega|(simp only[ln];omega)) [idf_Wd', idf_numI, cells_numI, numI_fold, Sp.av, Sp.cells, Sg.av, Sg.cells, spA, spC]) (by simp (disch := first|omega|(simp only[ln];omega))) (by simp) ?_
            simp only [updo]
            refine DP.runFk 6 (by simp (disch := first|omega|(simp only[ln];omega)) [runDf.eq_def, runF1, runF2, stepF.eq_def, updo.eq_def, hupo.eq_def, opSto1.eq_def, List.take_succ_cons, List.take_zero, idf_Wd', idf_numI, cells_numI, numI_fold, Sp.av, Sp.cells, Sg.av, Sg.cells, spA, spC]; rfl) fun fs31 hfs31 => ?_
            replace hfs31 : fs31.length = 6 := hfs31.trans rfl
            simp only [List.drop_succ_cons, List.drop_zero]
            refine DP.fcall (cD) rfl rfl rfl hb187 (by simp (disch := first|omega|(simp only[ln];omega)) [idf_Wd', idf_numI, cells_numI, numI_fold, Sp.av, Sp.cells, Sg.av, Sg.cells, spA, spC]) (by simp (disch := first|omega|(simp only[ln];omega))) (by simp) ?_
            simp only [updo]
            refine DQ.runF (m := 14) (by simp only [List.length_append, List.length_cons, List.length_nil, hfs30, hfs31]; omega) _ _ _ (by kernel_rfl) rfl (by simp (disch := first|omega|(simp only[ln];omega)) [runDf.eq_def, runF1, runF2, stepF.eq_def, updo.eq_def, hupo.eq_def, opSto1.eq_def, idf_Wd', idf_numI, cells_numI, numI_fold, Sp.av, Sp.cells, Sg.av, Sg.cells, spA, spC]; rfl) ?_
            refine hK29 _ ?_
            refine AWP.seqk fun K32 hK32 => ?_
            refine AWP.seqk fun K33 hK33 => ?_
            cases q3 : decide (0 < sg3 A * sg3 B)
            · refine AWP.region ?_
              refine AOPS.runk 1 (by simp (disch := first|omega|(simp only[ln];omega)) [List.take_succ_cons, List.take_zero, idf_Wd', idf_numI, cells_numI, numI_fold, Sp.av, Sp.cells, Sg.av, Sg.cells, spA, spC, q3]; rfl) ?_
              simp only [List.drop_succ_cons, List.drop_zero]
              refine AOPS.fcall (signI_fc A) rfl rfl rfl hb188 (by simp (disch := first|omega|(simp only[ln];omega)) [idf_Wd', q3, idf_numI, cells_numI, numI_fold, Sp.av, Sp.cells, Sg.av, Sg.cells, spA, spC]) (by simp (disch := first|omega|(simp only[ln];omega)) [q3]) (by simp) ?_
              simp only [puts_some, updo]
              refine AOPS.runk 1 (by simp (disch := first|omega|(simp only[ln];omega)) [List.take_succ_cons, List.take_zero, idf_Wd', idf_numI, cells_numI, numI_fold, Sp.av, Sp.cells, Sg.av, Sg.cells, spA, spC, q3]; rfl) ?_
              simp only [List.drop_succ_cons, List.drop_zero]
              refine AOPS.fcall (signI_fc B) rfl rfl rfl hb188 (by simp (disch := first|omega|(simp only[ln];omega)) [idf_Wd', q3, idf_numI, cells_numI, numI_fold, Sp.av, Sp.cells, Sg.av, Sg.cells, spA, spC]) (by simp (disch := first|omega|(simp only[ln];omega)) [q3]) (by simp) ?_
              simp only [puts_some, updo]
              refine AOPS.runk 4 (by simp (disch := first|omega|(simp only[ln];omega)) [List.take_succ_cons, List.take_zero, idf_Wd', idf_numI, cells_numI, numI_fold, Sp.av, Sp.cells, Sg.av, Sg.cells, spA, spC, q3]; rfl) ?_
              simp only [List.drop_succ_cons, List.drop_zero]
              refine AOPS.fcall (signI_fc C) rfl rfl rfl hb188 (by simp (disch := first|omega|(simp only[ln];omega)) [idf_Wd', q3, idf_numI, cells_numI, numI_fold, Sp.av, Sp.cells, Sg.av, Sg.cells, spA, spC]) (by simp (disch := first|omega|(simp only[ln];omega)) [q3]) (by simp) ?_
              simp only [puts_some, updo]
              refine AOPS.runk 1 (by simp (disch := first|omega|(simp only[ln];omega)) [List.take_succ_cons, List.take_zero, idf_Wd', idf_numI, cells_numI, numI_fold, Sp.av, Sp.cells, Sg.av, Sg.cells, spA, spC, q3]; rfl) ?_
              simp only [List.drop_succ_cons, List.drop_zero]
              refine AOPS.fcall (signI_fc D) rfl rfl rfl hb188 (by simp (disch := first|omega|(simp only[ln];omega)) [idf_Wd', q3, idf_numI, cells_numI, numI_fold, Sp.av, Sp.cells, Sg.av, Sg.cells, spA, spC]) (by simp (disch := first|omega|(simp only[ln];omega)) [q3]) (by simp) ?_
              simp only [puts_some, updo]
              refine AOPS.all (by simp (disch := first|omega|(simp only[ln];omega)) [idf_Wd', idf_numI, cells_numI, numI_fold, Sp.av, Sp.cells, Sg.av, Sg.cells, spA, spC, q3]; rfl) ?_
              refine hK33 _ ?_
              refine cond_ok (decide (0 < sg3 C * sg3 D)) (by simp (disch := first|omega|(simp only[ln];omega))) (fun h159 => ?_) (fun h159 => ?_)
              · try simp only [decide_eq_true_eq, decide_eq_false_iff_not] at h159
                have hw : noWay u v = true := by rw [hnw, q3]; simp [h159]
                refine AWP.seqk fun K34 hK34 => ?_
                refine AWP.region ?_
                refine AOPS.runk 1 (by simp (disch := first|omega|(simp only[ln];omega)) [List.take_succ_cons, List.take_zero, idf_Wd', idf_numI, cells_numI, numI_fold, Sp.av, Sp.cells, Sg.av, Sg.cells, spA, spC]; rfl) ?_
                simp only [List.drop_succ_cons, List.drop_zero]
                refine AOPS.fcall (none_fc) rfl rfl (by simp; rfl) hbNone (by simp (disch := first|omega|(simp only[ln];omega)) [idf_Wd', idf_numI, cells_numI, numI_fold, Sp.av, Sp.cells, Sg.av, Sg.cells, spA, spC]) (by simp (disch := first|omega|(simp only[ln];omega))) (by simp) ?_
                simp only [puts_some, updo]
                refine AOPS.all (by simp (disch := first|omega|(simp only[ln];omega)) [idf_Wd', idf_numI, cells_numI, numI_fold, Sp.av, Sp.cells, Sg.av, Sg.cells, spA, spC]; rfl) ?_
                refine hK34 _ ?_
                refine AWP.ret ?_
                exact hK _ _ _ _ trivial ((Fin.mk (by simp [aRes, aResL, aRes1, idf_Wd', idf_numI, cells_numI, numI_fold, Sp.av, Sp.cells, Sg.av, Sg.cells, spA, spC]; rfl)).cast (by rw [hm', if_pos hw]; try rfl))
              · try simp only [decide_eq_true_eq, decide_eq_false_iff_not] at h159
                have hw : ¬ noWay u v = true := by rw [hnw, q3]; simp; omega
                have b1 : Bg 1 v.a.x := Bg.i64 (by omega) (by omega)
                have b2 : Bg 1 v.a.y := Bg.i64 (by omega) (by omega)
                have b3 : Bg 1 A := Bg.i64 (by omega) (by omega)
                have b4 : Bg 1 (A - B) := Bg.i64 (by omega) (by omega)
                have b5 : Bg 1 (v.b.x - v.a.x) := Bg.i64 (by omega) (by omega)
                have b6 : Bg 1 (v.b.y - v.a.y) := Bg.i64 (by omega) (by omega)
                refine AWP.skip ?_
                refine hK32 _ ?_
                refine AWP.seqk fun K35 hK35 => ?_
                refine AWP.region ?_
                refine AOPS.runk 3 (by simp (disch := first|omega|(simp only[ln];omega)) [List.take_succ_cons, List.take_zero, idf_Wd', idf_numI, cells_numI, numI_fold, Sp.av, Sp.cells, Sg.av, Sg.cells, spA, spC]; rfl) ?_
                simp only [List.drop_succ_cons, List.drop_zero]
                refine AOPS.fcall (whole_fc (A - B) (by omega) (by omega)) rfl rfl rfl hb89 (by simp (disch := first|omega|(simp only[ln];omega)) [idf_Wd', idf_numI, cells_numI, numI_fold, Sp.av, Sp.cells, Sg.av, Sg.cells, spA, spC]) (by simp (disch := first|omega|(simp only[ln];omega))) (by simp) ?_
                simp only [puts_some, updo]
                refine AOPS.all (by simp (disch := first|omega|(simp only[ln];omega)) [idf_Wd', idf_numI, cells_numI, numI_fold, Sp.av, Sp.cells, Sg.av, Sg.cells, spA, spC]; rfl) ?_
                refine hK35 _ ?_
                refine AWP.seqk fun K36 hK36 => ?_
                refine AWP.draw 19 Try.checked.mixed (by kernel_rfl) (by simp) ?_
                simp only [List.take_succ_cons, List.take_zero, List.drop_succ_cons, List.drop_zero]
                refine DP.runFk 3 (by simp (disch := first|omega|(simp only[ln];omega)) [runDf.eq_def, runF1, runF2, stepF.eq_def, updo.eq_def, hupo.eq_def, opSto1.eq_def, List.take_succ_cons, List.take_zero, idf_Wd', idf_numI, cells_numI, numI_fold, Sp.av, Sp.cells, Sg.av, Sg.cells, spA, spC]; rfl) fun fs37 hfs37 => ?_
                replace hfs37 : fs37.length = 3 := hfs37.trans rfl
                simp only [List.drop_succ_cons, List.drop_zero]
                refine DP.fcall (whole_fc v.a.x (by omega) (by omega)) rfl rfl rfl hb89 (by simp (disch := first|omega|(simp only[ln];omega)) [idf_Wd', idf_numI, cells_numI, numI_fold, Sp.av, Sp.cells, Sg.av, Sg.cells, spA, spC]) (by simp (disch := first|omega|(simp only[ln];omega))) (by simp) ?_
                simp only [updo]
                refine DP.runFk 1 (by simp (disch := first|omega|(simp only[ln];omega)) [runDf.eq_def, runF1, runF2, stepF.eq_def, updo.eq_def, hupo.eq_def, opSto1.eq_def, List.take_succ_cons, List.take_zero, idf_Wd', idf_numI, cells_numI, numI_fold, Sp.av, Sp.cells, Sg.av, Sg.cells, spA, spC]; rfl) fun fs38 hfs38 => ?_
                replace hfs38 : fs38.length = 1 := hfs38.trans rfl
                simp only [List.drop_succ_cons, List.drop_zero]
                refine DP.fcall (by_fc b1 b4 (by omega) (by omega)) rfl rfl rfl hb92 (by simp (disch := first|omega|(simp only[ln];omega)) [idf_Wd', idf_numI, cells_numI, numI_fold, Sp.av, Sp.cells, Sg.av, Sg.cells, spA, spC]) (by simp (disch := first|omega|(simp only[ln];omega))) (by simp) ?_
                simp only [updo]
                refine DP.runFk 1 (by simp (disch := first|omega|(simp only[ln];omega)) [runDf.eq_def, runF1, runF2, stepF.eq_def, updo.eq_def, hupo.eq_def, opSto1.eq_def, List.take_succ_cons, List.take_zero, idf_Wd', idf_numI, cells_numI, numI_fold, Sp.av, Sp.cells, Sg.av, Sg.cells, spA, spC]; rfl) fun fs39 hfs39 => ?_
                replace hfs39 : fs39.length = 1 := hfs39.trans rfl
                simp only [List.drop_succ_cons, List.drop_zero]
                refine DP.fcall (whole_fc A (by omega) (by omega)) rfl rfl rfl hb89 (by simp (disch := first|omega|(simp only[ln];omega)) [idf_Wd', idf_numI, cells_numI, numI_fold, Sp.av, Sp.cells, Sg.av, Sg.cells, spA, spC]) (by simp (disch := first|omega|(simp only[ln];omega))) (by simp) ?_
                simp only [updo]
                refine DP.runFk 7 (by simp (disch := first|omega|(simp only[ln];omega)) [runDf.eq_def, runF1, runF2, stepF.eq_def, updo.eq_def, hupo.eq_def, opSto1.eq_def, List.take_succ_cons, List.take_zero, idf_Wd', idf_numI, cells_numI, numI_fold, Sp.av, Sp.cells, Sg.av, Sg.cells, spA, spC]; rfl) fun fs40 hfs40 => ?_
                replace hfs40 : fs40.length = 7 := hfs40.trans rfl
                simp only [List.drop_succ_cons, List.drop_zero]
                refine DP.fcall (whole_fc (v.b.x - v.a.x) (by omega) (by omega)) rfl rfl rfl hb89 (by simp (disch := first|omega|(simp only[ln];omega)) [idf_Wd', idf_numI, cells_numI, numI_fold, Sp.av, Sp.cells, Sg.av, Sg.cells, spA, spC]) (by simp (disch := first|omega|(simp only[ln];omega))) (by simp) ?_
                simp only [updo]
                refine DP.fcall (by_fc b3 b5 (by omega) (by omega)) rfl rfl rfl hb92 (by simp (disch := first|omega|(simp only[ln];omega)) [idf_Wd', idf_numI, cells_numI, numI_fold, Sp.av, Sp.cells, Sg.av, Sg.cells, spA, spC]) (by simp (disch := first|omega|(simp only[ln];omega))) (by simp) ?_
                simp only [updo]
                refine DP.fcall (plus_fc (b1.mul b4) (b3.mul b5) (by omega) (by omega)) rfl rfl rfl hb101 (by simp (disch := first|omega|(simp only[ln];omega)) [idf_Wd', idf_numI, cells_numI, numI_fold, Sp.av, Sp.cells, Sg.av, Sg.cells, spA, spC]) (by simp (disch := first|omega|(simp only[ln];omega))) (by simp) ?_
                simp only [updo]
                refine DP.runFk 1 (by simp (disch := first|omega|(simp only[ln];omega)) [runDf.eq_def, runF1, runF2, stepF.eq_def, updo.eq_def, hupo.eq_def, opSto1.eq_def, List.take_succ_cons, List.take_zero, idf_Wd', idf_numI, cells_numI, numI_fold, Sp.av, Sp.cells, Sg.av, Sg.cells, spA, spC]; rfl) fun fs41 hfs41 => ?_
                replace hfs41 : fs41.length = 1 := hfs41.trans rfl
                simp only [List.drop_succ_cons, List.drop_zero]
                refine DQ.runF (m := 19) (by simp only [List.length_append, List.length_cons, List.length_nil, hfs37, hfs38, hfs39, hfs40, hfs41]; omega) _ _ _ (by kernel_rfl) rfl (by simp (disch := first|omega|(simp only[ln];omega)) [runDf.eq_def, runF1, runF2, stepF.eq_def, updo.eq_def, hupo.eq_def, opSto1.eq_def, idf_Wd', idf_numI, cells_numI, numI_fold, Sp.av, Sp.cells, Sg.av, Sg.cells, spA, spC]; rfl) ?_
                refine hK36 _ ?_
                refine AWP.seqk fun K42 hK42 => ?_
                refine AWP.draw 19 Try.checked.mixed (by kernel_rfl) (by simp) ?_
                simp only [List.take_succ_cons, List.take_zero, List.drop_succ_cons, List.drop_zero]
                refine DP.runFk 3 (by simp (disch := first|omega|(simp only[ln];omega)) [runDf.eq_def, runF1, runF2, stepF.eq_def, updo.eq_def, hupo.eq_def, opSto1.eq_def, List.take_succ_cons, List.take_zero, idf_Wd', idf_numI, cells_numI, numI_fold, Sp.av, Sp.cells, Sg.av, Sg.cells, spA, spC]; rfl) fun fs43 hfs43 => ?_
                replace hfs43 : fs43.length = 3 := hfs43.trans rfl
                simp only [List.drop_succ_cons, List.drop_zero]
                refine DP.fcall (whole_fc v.a.y (by omega) (by omega)) rfl rfl rfl hb89 (by simp (disch := first|omega|(simp only[ln];omega)) [idf_Wd', idf_numI, cells_numI, numI_fold, Sp.av, Sp.cells, Sg.av, Sg.cells, spA, spC]) (by simp (disch := first|omega|(simp only[ln];omega))) (by simp) ?_
                simp only [updo]
                refine DP.runFk 1 (by simp (disch := first|omega|(simp only[ln];omega)) [runDf.eq_def, runF1, runF2, stepF.eq_def, updo.eq_def, hupo.eq_def, opSto1.eq_def, List.take_succ_cons, List.take_zero, idf_Wd', idf_numI, cells_numI, numI_fold, Sp.av, Sp.cells, Sg.av, Sg.cells, spA, spC]; rfl) fun fs44 hfs44 => ?_
                replace hfs44 : fs44.length = 1 := hfs44.trans rfl
                simp only [List.drop_succ_cons, List.drop_zero]
                refine DP.fcall (by_fc b2 b4 (by omega) (by omega)) rfl rfl rfl hb92 (by simp (disch := first|omega|(simp only[ln];omega)) [idf_Wd', idf_numI, cells_numI, numI_fold, Sp.av, Sp.cells, Sg.av, Sg.cells, spA, spC]) (by simp (disch := first|omega|(simp only[ln];omega))) (by simp) ?_
                simp only [updo]
                refine DP.runFk 1 (by simp (disch := first|omega|(simp only[ln];omega)) [runDf.eq_def, runF1, runF2, stepF.eq_def, updo.eq_def, hupo.eq_def, opSto1.eq_def, List.take_succ_cons, List.take_zero, idf_Wd', idf_numI, cells_numI, numI_fold, Sp.av, Sp.cells, Sg.av, Sg.cells, spA, spC]; rfl) fun fs45 hfs45 => ?_
                replace hfs45 : fs45.length = 1 := hfs45.trans rfl
                simp only [List.drop_succ_cons, List.drop_zero]
                refine DP.fcall (whole_fc A (by omega) (by omega)) rfl rfl rfl hb89 (by simp (disch := first|omega|(simp only[ln];omega)) [idf_Wd', idf_numI, cells_numI, numI_fold, Sp.av, Sp.cells, Sg.av, Sg.cells, spA, spC]) (by simp (disch := first|omega|(simp only[ln];omega))) (by simp) ?_
                simp only [updo]
                refine DP.runFk 7 (by simp (disch := first|omega|(simp only[ln];omega)) [runDf.eq_def, runF1, runF2, stepF.eq_def, updo.eq_def, hupo.eq_def, opSto1.eq_def, List.take_succ_cons, List.take_zero, idf_Wd', idf_numI, cells_numI, numI_fold, Sp.av, Sp.cells, Sg.av, Sg.cells, spA, spC]; rfl) fun fs46 hfs46 => ?_
                replace hfs46 : fs46.length = 7 := hfs46.trans rfl
                simp only [List.drop_succ_cons, List.drop_zero]
                refine DP.fcall (whole_fc (v.b.y - v.a.y) (by omega) (by omega)) rfl rfl rfl hb89 (by simp (disch := first|omega|(simp only[ln];omega)) [idf_Wd', idf_numI, cells_numI, numI_fold, Sp.av, Sp.cells, Sg.av, Sg.cells, spA, spC]) (by simp (disch := first|omega|(simp only[ln];omega))) (by simp) ?_
                simp only [updo]
                refine DP.fcall (by_fc b3 b6 (by omega) (by omega)) rfl rfl rfl hb92 (by simp (disch := first|omega|(simp only[ln];omega)) [idf_Wd', idf_numI, cells_numI, numI_fold, Sp.av, Sp.cells, Sg.av, Sg.cells, spA, spC]) (by simp (disch := first|omega|(simp only[ln];omega))) (by simp) ?_
                simp only [updo]
                refine DP.fcall (plus_fc (b2.mul b4) (b3.mul b6) (by omega) (by omega)) rfl rfl rfl hb101 (by simp (disch := first|omega|(simp only[ln];omega)) [idf_Wd', idf_numI, cells_numI, numI_fold, Sp.av, Sp.cells, Sg.av, Sg.cells, spA, spC]) (by simp (disch := first|omega|(simp only[ln];omega))) (by simp) ?_
                simp only [updo]
                refine DP.runFk 1 (by simp (disch := first|omega|(simp only[ln];omega)) [runDf.eq_def, runF1, runF2, stepF.eq_def, updo.eq_def, hupo.eq_def, opSto1.eq_def, List.take_succ_cons, List.take_zero, idf_Wd', idf_numI, cells_numI, numI_fold, Sp.av, Sp.cells, Sg.av, Sg.cells, spA, spC]; rfl) fun fs47 hfs47 => ?_
                replace hfs47 : fs47.length = 1 := hfs47.trans rfl
                simp only [List.drop_succ_cons, List.drop_zero]
                refine DQ.runF (m := 19) (by simp only [List.length_append, List.length_cons, List.length_nil, hfs43, hfs44, hfs45, hfs46, hfs47]; omega) _ _ _ (by kernel_rfl) rfl (by simp (disch := first|omega|(simp only[ln];omega)) [runDf.eq_def, runF1, runF2, stepF.eq_def, updo.eq_def, hupo.eq_def, opSto1.eq_def, idf_Wd', idf_numI, cells_numI, numI_fold, Sp.av, Sp.cells, Sg.av, Sg.cells, spA, spC]; rfl) ?_
                refine hK42 _ ?_
                refine AWP.seqk fun K48 hK48 => ?_
                refine AWP.region ?_
                refine AOPS.runk 4 (by simp (disch := first|omega|(simp only[ln];omega)) [List.take_succ_cons, List.take_zero, idf_Wd', idf_numI, cells_numI, numI_fold, Sp.av, Sp.cells, Sg.av, Sg.cells, spA, spC]; rfl) ?_
                simp only [List.drop_succ_cons, List.drop_zero]
                refine AOPS.fcall (spotPoint_fc (j := 3) (v.a.x * (A - B) + A * (v.b.x - v.a.x)) (v.a.y * (A - B) + A * (v.b.y - v.a.y)) (A - B) (((b1.mul b4).add (b3.mul b5)).le (by omega)) (((b2.mul b4).add (b3.mul b6)).le (by omega)) (b4.le (by omega)) (by omega)) rfl rfl rfl hb93 (by simp (disch := first|omega|(simp only[ln];omega)) [idf_Wd', idf_numI, cells_numI, numI_fold, Sp.av, Sp.cells, Sg.av, Sg.cells, spA, spC]) (by simp (disch := first|omega|(simp only[ln];omega))) (by simp) ?_
                simp only [puts_some, updo]
                refine AOPS.all (by simp (disch := first|omega|(simp only[ln];omega)) [idf_Wd', idf_numI, cells_numI, numI_fold, Sp.av, Sp.cells, Sg.av, Sg.cells, spA, spC]; rfl) ?_
                refine hK48 _ ?_
                refine AWP.seqk fun K49 hK49 => ?_
                refine AWP.old fun hold => ?_
                refine AWP.draw 2 Try.checked.mixed (by kernel_rfl) (by simp) ?_
                simp only [List.take_succ_cons, List.take_zero, List.drop_succ_cons, List.drop_zero]
                refine DP.runFk 1 (by simp (disch := first|omega|(simp only[ln];omega)) [runDf.eq_def, runF1, runF2, stepF.eq_def, updo.eq_def, hupo.eq_def, opSto1.eq_def, List.take_succ_cons, List.take_zero, idf_Wd', idf_numI, cells_numI, numI_fold, Sp.av, Sp.cells, Sg.av, Sg.cells, spA, spC]; rfl) fun fs50 hfs50 => ?_
                replace hfs50 : fs50.length = 1 := hfs50.trans rfl
                simp only [List.drop_succ_cons, List.drop_zero]
                refine DP.runF1q (by simp (disch := first|omega|(simp only[ln];omega)) [runDf.eq_def, runF1, runF2, stepF.eq_def, updo.eq_def, hupo.eq_def, opSto1.eq_def, idf_Wd', idf_numI, cells_numI, numI_fold, Sp.av, Sp.cells, Sg.av, Sg.cells, spA, spC]; rfl) fun fq51 hfq51 => ?_
                simp [qids, asksB, Op.operands, topId] at hfq51
                simp only [updo]
                refine DQ.asg1 _ rfl rfl ?_
                simp only [updo]
                refine DQ.sto1 (m := 2) [1] _ (by simp (disch := first|omega|(simp only[ln];omega)) [runDf.eq_def, runF1, runF2, stepF.eq_def, updo.eq_def, hupo.eq_def, opSto1.eq_def, idf_Wd', idf_numI, cells_numI, numI_fold, Sp.av, Sp.cells, Sg.av, Sg.cells, spA, spC]; rfl) rfl (by simp only [List.length_append, List.length_cons, List.length_nil, hfs50]; omega) (by kernel_rfl) (by intro k f hk hex; simp only [List.mem_cons, List.not_mem_nil, or_false] at hex; rcases hex with rfl <;> (simp [List.getElem?_append, hfs50] at hk; subst hk; refine ⟨?_, by first | omega | (simp; done) | (simp; omega)⟩; simp [qids, asksB, Op.operands, Call.operands, topId, numS, numI, Wd, hfq51]; try omega)) ?_
                try simp only []
                refine DQ.sto1 (m := 2) [] _ (by simp (disch := first|omega|(simp only[ln];omega)) [runDf.eq_def, runF1, runF2, stepF.eq_def, updo.eq_def, hupo.eq_def, opSto1.eq_def, idf_Wd', idf_numI, cells_numI, numI_fold, Sp.av, Sp.cells, Sg.av, Sg.cells, spA, spC]; rfl) rfl (by simp only [List.length_append, List.length_cons, List.length_nil, hfs50]; omega) (by kernel_rfl) (by intro k f hk hex; simp only [List.not_mem_nil] at hex) ?_
                try simp only []
                refine hK49 _ ?_
                refine AWP.ret ?_
                exact hK _ _ _ _ trivial ((Fin.mk (by simp [aRes, aResL, aRes1, idf_Wd', idf_numI, cells_numI, numI_fold, Sp.av, Sp.cells, Sg.av, Sg.cells, spA, spC]; rfl)).cast (by rw [hm', if_neg hw, eX, eY, eW]; try rfl))
            · refine AWP.region ?_
              refine AOPS.runk 1 (by simp (disch := first|omega|(simp only[ln];omega)) [List.take_succ_cons, List.take_zero, idf_Wd', idf_numI, cells_numI, numI_fold, Sp.av, Sp.cells, Sg.av, Sg.cells, spA, spC, q3]; rfl) ?_
              simp only [List.drop_succ_cons, List.drop_zero]
              refine AOPS.fcall (signI_fc A) rfl rfl rfl hb188 (by simp (disch := first|omega|(simp only[ln];omega)) [idf_Wd', q3, idf_numI, cells_numI, numI_fold, Sp.av, Sp.cells, Sg.av, Sg.cells, spA, spC]) (by simp (disch := first|omega|(simp only[ln];omega)) [q3]) (by simp) ?_
              simp only [puts_some, updo]
              refine AOPS.runk 1 (by simp (disch := first|omega|(simp only[ln];omega)) [List.take_succ_cons, List.take_zero, idf_Wd', idf_numI, cells_numI, numI_fold, Sp.av, Sp.cells, Sg.av, Sg.cells, spA, spC, q3]; rfl) ?_
              simp only [List.drop_succ_cons, List.drop_zero]
              refine AOPS.fcall (signI_fc B) rfl rfl rfl hb188 (by simp (disch := first|omega|(simp only[ln];omega)) [idf_Wd', q3, idf_numI, cells_numI, numI_fold, Sp.av, Sp.cells, Sg.av, Sg.cells, spA, spC]) (by simp (disch := first|omega|(simp only[ln];omega)) [q3]) (by simp) ?_
              simp only [puts_some, updo]
              refine AOPS.all (by simp (disch := first|omega|(simp only[ln];omega)) [idf_Wd', idf_numI, cells_numI, numI_fold, Sp.av, Sp.cells, Sg.av, Sg.cells, spA, spC, q3]; rfl) ?_
              refine hK33 _ ?_
              refine cond_ok _ (by simp (disch := first|omega|(simp only[ln];omega)); rfl) (fun h159 => ?_) (fun h159 => ?_)
              · try simp only [decide_eq_true_eq, decide_eq_false_iff_not] at h159
                have hw : noWay u v = true := by rw [hnw, q3]; rfl
                refine AWP.seqk fun K52 hK52 => ?_
                refine AWP.region ?_
                refine AOPS.runk 1 (by simp (disch := first|omega|(simp only[ln];omega)) [List.take_succ_cons, List.take_zero, idf_Wd', idf_numI, cells_numI, numI_fold, Sp.av, Sp.cells, Sg.av, Sg.cells, spA, spC]; rfl) ?_
                simp only [List.drop_succ_cons, List.drop_zero]
                refine AOPS.fcall (none_fc) rfl rfl (by simp; rfl) hbNone (by simp (disch := first|omega|(simp only[ln];omega)) [idf_Wd', idf_numI, cells_numI, numI_fold, Sp.av, Sp.cells, Sg.av, Sg.cells, spA, spC]) (by simp (disch := first|omega|(simp only[ln];omega))) (by simp) ?_
                simp only [puts_some, updo]
                refine AOPS.all (by simp (disch := first|omega|(simp only[ln];omega)) [idf_Wd', idf_numI, cells_numI, numI_fold, Sp.av, Sp.cells, Sg.av, Sg.cells, spA, spC]; rfl) ?_
                refine hK52 _ ?_
                refine AWP.ret ?_
                exact hK _ _ _ _ trivial ((Fin.mk (by simp [aRes, aResL, aRes1, idf_Wd', idf_numI, cells_numI, numI_fold, Sp.av, Sp.cells, Sg.av, Sg.cells, spA, spC]; rfl)).cast (by rw [hm', if_pos hw]; try rfl))
              · simp at h159
      · have c1 : (A == 0) = false := by simp [hA0]
        have hm' := hm
        rw [if_neg (fun h => hA0 h.1)] at hm'
        refine AWP.region (AOPS.all (by simp (disch := first|omega|(simp only[ln];omega)) [idf_Wd', idf_numI, cells_numI, numI_fold, Sp.av, Sp.cells, Sg.av, Sg.cells, spA, spC, c1]; rfl) ?_)
        refine hK10 _ ?_
        refine cond_ok _ (by simp (disch := first|omega|(simp only[ln];omega)); rfl) (fun h92 => ?_) (fun h92 => ?_)
        · simp at h92
        · try simp only [decide_eq_true_eq, decide_eq_false_iff_not] at h92
          refine AWP.skip ?_
          refine hK9 _ ?_
          refine AWP.seqk fun K53 hK53 => ?_
          refine AWP.draw 14 Try.checked.mixed (by kernel_rfl) (by simp) ?_
          simp only [List.take_succ_cons, List.take_zero, List.drop_succ_cons, List.drop_zero]
          refine DP.runFk 6 (by simp (disch := first|omega|(simp only[ln];omega)) [runDf.eq_def, runF1, runF2, stepF.eq_def, updo.eq_def, hupo.eq_def, opSto1.eq_def, List.take_succ_cons, List.take_zero, idf_Wd', idf_numI, cells_numI, numI_fold, Sp.av, Sp.cells, Sg.av, Sg.cells, spA, spC]; rfl) fun fs54 hfs54 => ?_
          replace hfs54 : fs54.length = 6 := hfs54.trans rfl
          simp only [List.drop_succ_cons, List.drop_zero]
          refine DP.fcall (cC) rfl rfl rfl hb187 (by simp (disch := first|omega|(simp only[ln];omega)) [idf_Wd', idf_numI, cells_numI, numI_fold, Sp.av, Sp.cells, Sg.av, Sg.cells, spA, spC]) (by simp (disch := first|omega|(simp only[ln];omega))) (by simp) ?_
          simp only [updo]
          refine DP.runFk 6 (by simp (disch := first|omega|(simp only[ln];omega)) [runDf.eq_def, runF1, runF2, stepF.eq_def, updo.eq_def, hupo.eq_def, opSto1.eq_def, List.take_succ_cons, List.take_zero, idf_Wd', idf_numI, cells_numI, numI_fold, Sp.av, Sp.cells, Sg.av, Sg.cells, spA, spC]; rfl) fun fs55 hfs55 => ?_
          replace hfs55 : fs55.length = 6 := hfs55.trans rfl
          simp only [List.drop_succ_cons, List.drop_zero]
          refine DP.fcall (cD) rfl rfl rfl hb187 (by simp (disch := first|omega|(simp only[ln];omega)) [idf_Wd', idf_numI, cells_numI, numI_fold, Sp.av, Sp.cells, Sg.av, Sg.cells, spA, spC]) (by simp (disch := first|omega|(simp only[ln];omega))) (by simp) ?_
          simp only [updo]
          refine DQ.runF (m := 14) (by simp only [List.length_append, List.length_cons, List.length_nil, hfs54, hfs55]; omega) _ _ _ (by kernel_rfl) rfl (by simp (disch := first|omega|(simp only[ln];omega)) [runDf.eq_def, runF1, runF2, stepF.eq_def, updo.eq_def, hupo.eq_def, opSto1.eq_def, idf_Wd', idf_numI, cells_numI, numI_fold, Sp.av, Sp.cells, Sg.av, Sg.cells, spA, spC]; rfl) ?_
          refine hK53 _ ?_
          refine AWP.seqk fun K56 hK56 => ?_
          refine AWP.seqk fun K57 hK57 => ?_
          cases q3 : decide (0 < sg3 A * sg3 B)
          · refine AWP.region ?_
            refine AOPS.runk 1 (by simp (disch := first|omega|(simp only[ln];omega)) [List.take_succ_cons, List.take_zero, idf_Wd', idf_numI, cells_numI, numI_fold, Sp.av, Sp.cells, Sg.av, Sg.cells, spA, spC, q3]; rfl) ?_
            simp only [List.drop_succ_cons, List.drop_zero]
            refine AOPS.fcall (signI_fc A) rfl rfl rfl hb188 (by simp (disch := first|omega|(simp only[ln];omega)) [idf_Wd', q3, idf_numI, cells_numI, numI_fold, Sp.av, Sp.cells, Sg.av, Sg.cells, spA, spC]) (by simp (disch := first|omega|(simp only[ln];omega)) [q3]) (by simp) ?_
            simp only [puts_some, updo]
            refine AOPS.runk 1 (by simp (disch := first|omega|(simp only[ln];omega)) [List.take_succ_cons, List.take_zero, idf_Wd', idf_numI, cells_numI, numI_fold, Sp.av, Sp.cells, Sg.av, Sg.cells, spA, spC, q3]; rfl) ?_
            simp only [List.drop_succ_cons, List.drop_zero]
            refine AOPS.fcall (signI_fc B) rfl rfl rfl hb188 (by simp (disch := first|omega|(simp only[ln];omega)) [idf_Wd', q3, idf_numI, cells_numI, numI_fold, Sp.av, Sp.cells, Sg.av, Sg.cells, spA, spC]) (by simp (disch := first|omega|(simp only[ln];omega)) [q3]) (by simp) ?_
            simp only [puts_some, updo]
            refine AOPS.runk 4 (by simp (disch := first|omega|(simp only[ln];omega)) [List.take_succ_cons, List.take_zero, idf_Wd', idf_numI, cells_numI, numI_fold, Sp.av, Sp.cells, Sg.av, Sg.cells, spA, spC, q3]; rfl) ?_
            simp only [List.drop_succ_cons, List.drop_zero]
            refine AOPS.fcall (signI_fc C) rfl rfl rfl hb188 (by simp (disch := first|omega|(simp only[ln];omega)) [idf_Wd', q3, idf_numI, cells_numI, numI_fold, Sp.av, Sp.cells, Sg.av, Sg.cells, spA, spC]) (by simp (disch := first|omega|(simp only[ln];omega)) [q3]) (by simp) ?_
            simp only [puts_some, updo]
            refine AOPS.runk 1 (by simp (disch := first|omega|(simp only[ln];omega)) [List.take_succ_cons, List.take_zero, idf_Wd', idf_numI, cells_numI, numI_fold, Sp.av, Sp.cells, Sg.av, Sg.cells, spA, spC, q3]; rfl) ?_
            simp only [List.drop_succ_cons, List.drop_zero]
            refine AOPS.fcall (signI_fc D) rfl rfl rfl hb188 (by simp (disch := first|omega|(simp only[ln];omega)) [idf_Wd', q3, idf_numI, cells_numI, numI_fold, Sp.av, Sp.cells, Sg.av, Sg.cells, spA, spC]) (by simp (disch := first|omega|(simp only[ln];omega)) [q3]) (by simp) ?_
            simp only [puts_some, updo]
            refine AOPS.all (by simp (disch := first|omega|(simp only[ln];omega)) [idf_Wd', idf_numI, cells_numI, numI_fold, Sp.av, Sp.cells, Sg.av, Sg.cells, spA, spC, q3]; rfl) ?_
            refine hK57 _ ?_
            refine cond_ok (decide (0 < sg3 C * sg3 D)) (by simp (disch := first|omega|(simp only[ln];omega))) (fun h159 => ?_) (fun h159 => ?_)
            · try simp only [decide_eq_true_eq, decide_eq_false_iff_not] at h159
              have hw : noWay u v = true := by rw [hnw, q3]; simp [h159]
              refine AWP.seqk fun K58 hK58 => ?_
              refine AWP.region ?_
              refine AOPS.runk 1 (by simp (disch := first|omega|(simp only[ln];omega)) [List.take_succ_cons, List.take_zero, idf_Wd', idf_numI, cells_numI, numI_fold, Sp.av, Sp.cells, Sg.av, Sg.cells, spA, spC]; rfl) ?_
              simp only [List.drop_succ_cons, List.drop_zero]
              refine AOPS.fcall (none_fc) rfl rfl (by simp; rfl) hbNone (by simp (disch := first|omega|(simp only[ln];omega)) [idf_Wd', idf_numI, cells_numI, numI_fold, Sp.av, Sp.cells, Sg.av, Sg.cells, spA, spC]) (by simp (disch := first|omega|(simp only[ln];omega))) (by simp) ?_
              simp only [puts_some, updo]
              refine AOPS.all (by simp (disch := first|omega|(simp only[ln];omega)) [idf_Wd', idf_numI, cells_numI, numI_fold, Sp.av, Sp.cells, Sg.av, Sg.cells, spA, spC]; rfl) ?_
              refine hK58 _ ?_
              refine AWP.ret ?_
              exact hK _ _ _ _ trivial ((Fin.mk (by simp [aRes, aResL, aRes1, idf_Wd', idf_numI, cells_numI, numI_fold, Sp.av, Sp.cells, Sg.av, Sg.cells, spA, spC]; rfl)).cast (by rw [hm', if_pos hw]; try rfl))
            · try simp only [decide_eq_true_eq, decide_eq_false_iff_not] at h159
              have hw : ¬ noWay u v = true := by rw [hnw, q3]; simp; omega
              have b1 : Bg 1 v.a.x := Bg.i64 (by omega) (by omega)
              have b2 : Bg 1 v.a.y := Bg.i64 (by omega) (by omega)
              have b3 : Bg 1 A := Bg.i64 (by omega) (by omega)
              have b4 : Bg 1 (A - B) := Bg.i64 (by omega) (by omega)
              have b5 : Bg 1 (v.b.x - v.a.x) := Bg.i64 (by omega) (by omega)
              have b6 : Bg 1 (v.b.y - v.a.y) := Bg.i64 (by omega) (by omega)
              refine AWP.skip ?_
              refine hK56 _ ?_
              refine AWP.seqk fun K59 hK59 => ?_
              refine AWP.region ?_
              refine AOPS.runk 3 (by simp (disch := first|omega|(simp only[ln];omega)) [List.take_succ_cons, List.take_zero, idf_Wd', idf_numI, cells_numI, numI_fold, Sp.av, Sp.cells, Sg.av, Sg.cells, spA, spC]; rfl) ?_
              simp only [List.drop_succ_cons, List.drop_zero]
              refine AOPS.fcall (whole_fc (A - B) (by omega) (by omega)) rfl rfl rfl hb89 (by simp (disch := first|omega|(simp only[ln];omega)) [idf_Wd', idf_numI, cells_numI, numI_fold, Sp.av, Sp.cells, Sg.av, Sg.cells, spA, spC]) (by simp (disch := first|omega|(simp only[ln];omega))) (by simp) ?_
              simp only [puts_some, updo]
              refine AOPS.all (by simp (disch := first|omega|(simp only[ln];omega)) [idf_Wd', idf_numI, cells_numI, numI_fold, Sp.av, Sp.cells, Sg.av, Sg.cells, spA, spC]; rfl) ?_
              refine hK59 _ ?_
              refine AWP.seqk fun K60 hK60 => ?_
              refine AWP.draw 19 Try.checked.mixed (by kernel_rfl) (by simp) ?_
              simp only [List.take_succ_cons, List.take_zero, List.drop_succ_cons, List.drop_zero]
              refine DP.runFk 3 (by simp (disch := first|omega|(simp only[ln];omega)) [runDf.eq_def, runF1, runF2, stepF.eq_def, updo.eq_def, hupo.eq_def, opSto1.eq_def, List.take_succ_cons, List.take_zero, idf_Wd', idf_numI, cells_numI, numI_fold, Sp.av, Sp.cells, Sg.av, Sg.cells, spA, spC]; rfl) fun fs61 hfs61 => ?_
              replace hfs61 : fs61.length = 3 := hfs61.trans rfl
              simp only [List.drop_succ_cons, List.drop_zero]
              refine DP.fcall (whole_fc v.a.x (by omega) (by omega)) rfl rfl rfl hb89 (by simp (disch := first|omega|(simp only[ln];omega)) [idf_Wd', idf_numI, cells_numI, numI_fold, Sp.av, Sp.cells, Sg.av, Sg.cells, spA, spC]) (by simp (disch := first|omega|(simp only[ln];omega))) (by simp) ?_
              simp only [updo]
              refine DP.runFk 1 (by simp (disch := first|omega|(simp only[ln];omega)) [runDf.eq_def, runF1, runF2, stepF.eq_def, updo.eq_def, hupo.eq_def, opSto1.eq_def, List.take_succ_cons, List.take_zero, idf_Wd', idf_numI, cells_numI, numI_fold, Sp.av, Sp.cells, Sg.av, Sg.cells, spA, spC]; rfl) fun fs62 hfs62 => ?_
              replace hfs62 : fs62.length = 1 := hfs62.trans rfl
              simp only [List.drop_succ_cons, List.drop_zero]
              refine DP.fcall (by_fc b1 b4 (by omega) (by omega)) rfl rfl rfl hb92 (by simp (disch := first|omega|(simp only[ln];omega)) [idf_Wd', idf_numI, cells_numI, numI_fold, Sp.av, Sp.cells, Sg.av, Sg.cells, spA, spC]) (by simp (disch := first|omega|(simp only[ln];omega))) (by simp) ?_
              simp only [updo]
              refine DP.runFk 1 (by simp (disch := first|omega|(simp only[ln];omega)) [runDf.eq_def, runF1, runF2, stepF.eq_def, updo.eq_def, hupo.eq_def, opSto1.eq_def, List.take_succ_cons, List.take_zero, idf_Wd', idf_numI, cells_numI, numI_fold, Sp.av, Sp.cells, Sg.av, Sg.cells, spA, spC]; rfl) fun fs63 hfs63 => ?_
              replace hfs63 : fs63.length = 1 := hfs63.trans rfl
              simp only [List.drop_succ_cons, List.drop_zero]
              refine DP.fcall (whole_fc A (by omega) (by omega)) rfl rfl rfl hb89 (by simp (disch := first|omega|(simp only[ln];omega)) [idf_Wd', idf_numI, cells_numI, numI_fold, Sp.av, Sp.cells, Sg.av, Sg.cells, spA, spC]) (by simp (disch := first|omega|(simp only[ln];omega))) (by simp) ?_
              simp only [updo]
              refine DP.runFk 7 (by simp (disch := first|omega|(simp only[ln];omega)) [runDf.eq_def, runF1, runF2, stepF.eq_def, updo.eq_def, hupo.eq_def, opSto1.eq_def, List.take_succ_cons, List.take_zero, idf_Wd', idf_numI, cells_numI, numI_fold, Sp.av, Sp.cells, Sg.av, Sg.cells, spA, spC]; rfl) fun fs64 hfs64 => ?_
              replace hfs64 : fs64.length = 7 := hfs64.trans rfl
              simp only [List.drop_succ_cons, List.drop_zero]
              refine DP.fcall (whole_fc (v.b.x - v.a.x) (by omega) (by omega)) rfl rfl rfl hb89 (by simp (disch := first|omega|(simp only[ln];omega)) [idf_Wd', idf_numI, cells_numI, numI_fold, Sp.av, Sp.cells, Sg.av, Sg.cells, spA, spC]) (by simp (disch := first|omega|(simp only[ln];omega))) (by simp) ?_
              simp only [updo]
              refine DP.fcall (by_fc b3 b5 (by omega) (by omega)) rfl rfl rfl hb92 (by simp (disch := first|omega|(simp only[ln];omega)) [idf_Wd', idf_numI, cells_numI, numI_fold, Sp.av, Sp.cells, Sg.av, Sg.cells, spA, spC]) (by simp (disch := first|omega|(simp only[ln];omega))) (by simp) ?_
              simp only [updo]
              refine DP.fcall (plus_fc (b1.mul b4) (b3.mul b5) (by omega) (by omega)) rfl rfl rfl hb101 (by simp (disch := first|omega|(simp only[ln];omega)) [idf_Wd', idf_numI, cells_numI, numI_fold, Sp.av, Sp.cells, Sg.av, Sg.cells, spA, spC]) (by simp (disch := first|omega|(simp only[ln];omega))) (by simp) ?_
              simp only [updo]
              refine DP.runFk 1 (by simp (disch := first|omega|(simp only[ln];omega)) [runDf.eq_def, runF1, runF2, stepF.eq_def, updo.eq_def, hupo.eq_def, opSto1.eq_def, List.take_succ_cons, List.take_zero, idf_Wd', idf_numI, cells_numI, numI_fold, Sp.av, Sp.cells, Sg.av, Sg.cells, spA, spC]; rfl) fun fs65 hfs65 => ?_
              replace hfs65 : fs65.length = 1 := hfs65.trans rfl
              simp only [List.drop_succ_cons, List.drop_zero]
              refine DQ.runF (m := 19) (by simp only [List.length_append, List.length_cons, List.length_nil, hfs61, hfs62, hfs63, hfs64, hfs65]; omega) _ _ _ (by kernel_rfl) rfl (by simp (disch := first|omega|(simp only[ln];omega)) [runDf.eq_def, runF1, runF2, stepF.eq_def, updo.eq_def, hupo.eq_def, opSto1.eq_def, idf_Wd', idf_numI, cells_numI, numI_fold, Sp.av, Sp.cells, Sg.av, Sg.cells, spA, spC]; rfl) ?_
              refine hK60 _ ?_
              refine AWP.seqk fun K66 hK66 => ?_
              refine AWP.draw 19 Try.checked.mixed (by kernel_rfl) (by simp) ?_
              simp only [List.take_succ_cons, List.take_zero, List.drop_succ_cons, List.drop_zero]
              refine DP.runFk 3 (by simp (disch := first|omega|(simp only[ln];omega)) [runDf.eq_def, runF1, runF2, stepF.eq_def, updo.eq_def, hupo.eq_def, opSto1.eq_def, List.take_succ_cons, List.take_zero, idf_Wd', idf_numI, cells_numI, numI_fold, Sp.av, Sp.cells, Sg.av, Sg.cells, spA, spC]; rfl) fun fs67 hfs67 => ?_
              replace hfs67 : fs67.length = 3 := hfs67.trans rfl
              simp only [List.drop_succ_cons, List.drop_zero]
              refine DP.fcall (whole_fc v.a.y (by omega) (by omega)) rfl rfl rfl hb89 (by simp (disch := first|omega|(simp only[ln];omega)) [idf_Wd', idf_numI, cells_numI, numI_fold, Sp.av, Sp.cells, Sg.av, Sg.cells, spA, spC]) (by simp (disch := first|omega|(simp only[ln];omega))) (by simp) ?_
              simp only [updo]
              refine DP.runFk 1 (by simp (disch := first|omega|(simp only[ln];omega)) [runDf.eq_def, runF1, runF2, stepF.eq_def, updo.eq_def, hupo.eq_def, opSto1.eq_def, List.take_succ_cons, List.take_zero, idf_Wd', idf_numI, cells_numI, numI_fold, Sp.av, Sp.cells, Sg.av, Sg.cells, spA, spC]; rfl) fun fs68 hfs68 => ?_
              replace hfs68 : fs68.length = 1 := hfs68.trans rfl
              simp only [List.drop_succ_cons, List.drop_zero]
              refine DP.fcall (by_fc b2 b4 (by omega) (by omega)) rfl rfl rfl hb92 (by simp (disch := first|omega|(simp only[ln];omega)) [idf_Wd', idf_numI, cells_numI, numI_fold, Sp.av, Sp.cells, Sg.av, Sg.cells, spA, spC]) (by simp (disch := first|omega|(simp only[ln];omega))) (by simp) ?_
              simp only [updo]
              refine DP.runFk 1 (by simp (disch := first|omega|(simp only[ln];omega)) [runDf.eq_def, runF1, runF2, stepF.eq_def, updo.eq_def, hupo.eq_def, opSto1.eq_def, List.take_succ_cons, List.take_zero, idf_Wd', idf_numI, cells_numI, numI_fold, Sp.av, Sp.cells, Sg.av, Sg.cells, spA, spC]; rfl) fun fs69 hfs69 => ?_
              replace hfs69 : fs69.length = 1 := hfs69.trans rfl
              simp only [List.drop_succ_cons, List.drop_zero]
              refine DP.fcall (whole_fc A (by omega) (by omega)) rfl rfl rfl hb89 (by simp (disch := first|omega|(simp only[ln];omega)) [idf_Wd', idf_numI, cells_numI, numI_fold, Sp.av, Sp.cells, Sg.av, Sg.cells, spA, spC]) (by simp (disch := first|omega|(simp only[ln];omega))) (by simp) ?_
              simp only [updo]
              refine DP.runFk 7 (by simp (disch := first|omega|(simp only[ln];omega)) [runDf.eq_def, runF1, runF2, stepF.eq_def, updo.eq_def, hupo.eq_def, opSto1.eq_def, List.take_succ_cons, List.take_zero, idf_Wd', idf_numI, cells_numI, numI_fold, Sp.av, Sp.cells, Sg.av, Sg.cells, spA, spC]; rfl) fun fs70 hfs70 => ?_
              replace hfs70 : fs70.length = 7 := hfs70.trans rfl
              simp only [List.drop_succ_cons, List.drop_zero]
              refine DP.fcall (whole_fc (v.b.y - v.a.y) (by omega) (by omega)) rfl rfl rfl hb89 (by simp (disch := first|omega|(simp only[ln];omega)) [idf_Wd', idf_numI, cells_numI, numI_fold, Sp.av, Sp.cells, Sg.av, Sg.cells, spA, spC]) (by simp (disch := first|omega|(simp only[ln];omega))) (by simp) ?_
              simp only [updo]
              refine DP.fcall (by_fc b3 b6 (by omega) (by omega)) rfl rfl rfl hb92 (by simp (disch := first|omega|(simp only[ln];omega)) [idf_Wd', idf_numI, cells_numI, numI_fold, Sp.av, Sp.cells, Sg.av, Sg.cells, spA, spC]) (by simp (disch := first|omega|(simp only[ln];omega))) (by simp) ?_
              simp only [updo]
              refine DP.fcall (plus_fc (b2.mul b4) (b3.mul b6) (by omega) (by omega)) rfl rfl rfl hb101 (by simp (disch := first|omega|(simp only[ln];omega)) [idf_Wd', idf_numI, cells_numI, numI_fold, Sp.av, Sp.cells, Sg.av, Sg.cells, spA, spC]) (by simp (disch := first|omega|(simp only[ln];omega))) (by simp) ?_
              simp only [updo]
              refine DP.runFk 1 (by simp (disch := first|omega|(simp only[ln];omega)) [runDf.eq_def, runF1, runF2, stepF.eq_def, updo.eq_def, hupo.eq_def, opSto1.eq_def, List.take_succ_cons, List.take_zero, idf_Wd', idf_numI, cells_numI, numI_fold, Sp.av, Sp.cells, Sg.av, Sg.cells, spA, spC]; rfl) fun fs71 hfs71 => ?_
              replace hfs71 : fs71.length = 1 := hfs71.trans rfl
              simp only [List.drop_succ_cons, List.drop_zero]
              refine DQ.runF (m := 19) (by simp only [List.length_append, List.length_cons, List.length_nil, hfs67, hfs68, hfs69, hfs70, hfs71]; omega) _ _ _ (by kernel_rfl) rfl (by simp (disch := first|omega|(simp only[ln];omega)) [runDf.eq_def, runF1, runF2, stepF.eq_def, updo.eq_def, hupo.eq_def, opSto1.eq_def, idf_Wd', idf_numI, cells_numI, numI_fold, Sp.av, Sp.cells, Sg.av, Sg.cells, spA, spC]; rfl) ?_
              refine hK66 _ ?_
              refine AWP.seqk fun K72 hK72 => ?_
              refine AWP.region ?_
              refine AOPS.runk 4 (by simp (disch := first|omega|(simp only[ln];omega)) [List.take_succ_cons, List.take_zero, idf_Wd', idf_numI, cells_numI, numI_fold, Sp.av, Sp.cells, Sg.av, Sg.cells, spA, spC]; rfl) ?_
              simp only [List.drop_succ_cons, List.drop_zero]
              refine AOPS.fcall (spotPoint_fc (j := 3) (v.a.x * (A - B) + A * (v.b.x - v.a.x)) (v.a.y * (A - B) + A * (v.b.y - v.a.y)) (A - B) (((b1.mul b4).add (b3.mul b5)).le (by omega)) (((b2.mul b4).add (b3.mul b6)).le (by omega)) (b4.le (by omega)) (by omega)) rfl rfl rfl hb93 (by simp (disch := first|omega|(simp only[ln];omega)) [idf_Wd', idf_numI, cells_numI, numI_fold, Sp.av, Sp.cells, Sg.av, Sg.cells, spA, spC]) (by simp (disch := first|omega|(simp only[ln];omega))) (by simp) ?_
              simp only [puts_some, updo]
              refine AOPS.all (by simp (disch := first|omega|(simp only[ln];omega)) [idf_Wd', idf_numI, cells_numI, numI_fold, Sp.av, Sp.cells, Sg.av, Sg.cells, spA, spC]; rfl) ?_
              refine hK72 _ ?_
              refine AWP.seqk fun K73 hK73 => ?_
              refine AWP.old fun hold => ?_
              refine AWP.draw 2 Try.checked.mixed (by kernel_rfl) (by simp) ?_
              simp only [List.take_succ_cons, List.take_zero, List.drop_succ_cons, List.drop_zero]
              refine DP.runFk 1 (by simp (disch := first|omega|(simp only[ln];omega)) [runDf.eq_def, runF1, runF2, stepF.eq_def, updo.eq_def, hupo.eq_def, opSto1.eq_def, List.take_succ_cons, List.take_zero, idf_Wd', idf_numI, cells_numI, numI_fold, Sp.av, Sp.cells, Sg.av, Sg.cells, spA, spC]; rfl) fun fs74 hfs74 => ?_
              replace hfs74 : fs74.length = 1 := hfs74.trans rfl
              simp only [List.drop_succ_cons, List.drop_zero]
              refine DP.runF1q (by simp (disch := first|omega|(simp only[ln];omega)) [runDf.eq_def, runF1, runF2, stepF.eq_def, updo.eq_def, hupo.eq_def, opSto1.eq_def, idf_Wd', idf_numI, cells_numI, numI_fold, Sp.av, Sp.cells, Sg.av, Sg.cells, spA, spC]; rfl) fun fq75 hfq75 => ?_
              simp [qids, asksB, Op.operands, topId] at hfq75
              simp only [updo]
              refine DQ.asg1 _ rfl rfl ?_
              simp only [updo]
              refine DQ.sto1 (m := 2) [1] _ (by simp (disch := first|omega|(simp only[ln];omega)) [runDf.eq_def, runF1, runF2, stepF.eq_def, updo.eq_def, hupo.eq_def, opSto1.eq_def, idf_Wd', idf_numI, cells_numI, numI_fold, Sp.av, Sp.cells, Sg.av, Sg.cells, spA, spC]; rfl) rfl (by simp only [List.length_append, List.length_cons, List.length_nil, hfs74]; omega) (by kernel_rfl) (by intro k f hk hex; simp only [List.mem_cons, List.not_mem_nil, or_false] at hex; rcases hex with rfl <;> (simp [List.getElem?_append, hfs74] at hk; subst hk; refine ⟨?_, by first | omega | (simp; done) | (simp; omega)⟩; simp [qids, asksB, Op.operands, Call.operands, topId, numS, numI, Wd, hfq75]; try omega)) ?_
              try simp only []
              refine DQ.sto1 (m := 2) [] _ (by simp (disch := first|omega|(simp only[ln];omega)) [runDf.eq_def, runF1, runF2, stepF.eq_def, updo.eq_def, hupo.eq_def, opSto1.eq_def, idf_Wd', idf_numI, cells_numI, numI_fold, Sp.av, Sp.cells, Sg.av, Sg.cells, spA, spC]; rfl) rfl (by simp only [List.length_append, List.length_cons, List.length_nil, hfs74]; omega) (by kernel_rfl) (by intro k f hk hex; simp only [List.not_mem_nil] at hex) ?_
              try simp only []
              refine hK73 _ ?_
              refine AWP.ret ?_
              exact hK _ _ _ _ trivial ((Fin.mk (by simp [aRes, aResL, aRes1, idf_Wd', idf_numI, cells_numI, numI_fold, Sp.av, Sp.cells, Sg.av, Sg.cells, spA, spC]; rfl)).cast (by rw [hm', if_neg hw, eX, eY, eW]; try rfl))
          · refine AWP.region ?_
            refine AOPS.runk 1 (by simp (disch := first|omega|(simp only[ln];omega)) [List.take_succ_cons, List.take_zero, idf_Wd', idf_numI, cells_numI, numI_fold, Sp.av, Sp.cells, Sg.av, Sg.cells, spA, spC, q3]; rfl) ?_
            simp only [List.drop_succ_cons, List.drop_zero]
            refine AOPS.fcall (signI_fc A) rfl rfl rfl hb188 (by simp (disch := first|omega|(simp only[ln];omega)) [idf_Wd', q3, idf_numI, cells_numI, numI_fold, Sp.av, Sp.cells, Sg.av, Sg.cells, spA, spC]) (by simp (disch := first|omega|(simp only[ln];omega)) [q3]) (by simp) ?_
            simp only [puts_some, updo]
            refine AOPS.runk 1 (by simp (disch := first|omega|(simp only[ln];omega)) [List.take_succ_cons, List.take_zero, idf_Wd', idf_numI, cells_numI, numI_fold, Sp.av, Sp.cells, Sg.av, Sg.cells, spA, spC, q3]; rfl) ?_
            simp only [List.drop_succ_cons, List.drop_zero]
            refine AOPS.fcall (signI_fc B) rfl rfl rfl hb188 (by simp (disch := first|omega|(simp only[ln];omega)) [idf_Wd', q3, idf_numI, cells_numI, numI_fold, Sp.av, Sp.cells, Sg.av, Sg.cells, spA, spC]) (by simp (disch := first|omega|(simp only[ln];omega)) [q3]) (by simp) ?_
            simp only [puts_some, updo]
            refine AOPS.all (by simp (disch := first|omega|(simp only[ln];omega)) [idf_Wd', idf_numI, cells_numI, numI_fold, Sp.av, Sp.cells, Sg.av, Sg.cells, spA, spC, q3]; rfl) ?_
            refine hK57 _ ?_
            refine cond_ok _ (by simp (disch := first|omega|(simp only[ln];omega)); rfl) (fun h159 => ?_) (fun h159 => ?_)
            · try simp only [decide_eq_true_eq, decide_eq_false_iff_not] at h159
              have hw : noWay u v = true := by rw [hnw, q3]; rfl
              refine AWP.seqk fun K76 hK76 => ?_
              refine AWP.region ?_
              refine AOPS.runk 1 (by simp (disch := first|omega|(simp only[ln];omega)) [List.take_succ_cons, List.take_zero, idf_Wd', idf_numI, cells_numI, numI_fold, Sp.av, Sp.cells, Sg.av, Sg.cells, spA, spC]; rfl) ?_
              simp only [List.drop_succ_cons, List.drop_zero]
              refine AOPS.fcall (none_fc) rfl rfl (by simp; rfl) hbNone (by simp (disch := first|omega|(simp only[ln];omega)) [idf_Wd', idf_numI, cells_numI, numI_fold, Sp.av, Sp.cells, Sg.av, Sg.cells, spA, spC]) (by simp (disch := first|omega|(simp only[ln];omega))) (by simp) ?_
              simp only [puts_some, updo]
              refine AOPS.all (by simp (disch := first|omega|(simp only[ln];omega)) [idf_Wd', idf_numI, cells_numI, numI_fold, Sp.av, Sp.cells, Sg.av, Sg.cells, spA, spC]; rfl) ?_
              refine hK76 _ ?_
              refine AWP.ret ?_
              exact hK _ _ _ _ trivial ((Fin.mk (by simp [aRes, aResL, aRes1, idf_Wd', idf_numI, cells_numI, numI_fold, Sp.av, Sp.cells, Sg.av, Sg.cells, spA, spC]; rfl)).cast (by rw [hm', if_pos hw]; try rfl))
            · simp at h159
  · refine AWP.region (AOPS.all (by simp (disch := first|omega|(simp only[ln];omega)) [idf_Wd', idf_numI, cells_numI, numI_fold, Sp.av, Sp.cells, Sg.av, Sg.cells, spA, spC, mx_fold, mn_fold, q1]; rfl) ?_)
    refine hK4 _ ?_
    refine cond_ok _ (by simp (disch := first|omega|(simp only[ln];omega)); rfl) (fun h67 => ?_) (fun h67 => ?_)
    · try simp only [decide_eq_true_eq, decide_eq_false_iff_not] at h67
      have hm := hmt (by rw [hap, q1]; rfl)
      refine AWP.seqk fun K77 hK77 => ?_
      refine AWP.region ?_
      refine AOPS.runk 1 (by simp (disch := first|omega|(simp only[ln];omega)) [List.take_succ_cons, List.take_zero, idf_Wd', idf_numI, cells_numI, numI_fold, Sp.av, Sp.cells, Sg.av, Sg.cells, spA, spC]; rfl) ?_
      simp only [List.drop_succ_cons, List.drop_zero]
      refine AOPS.fcall (none_fc) rfl rfl (by simp; rfl) hbNone (by simp (disch := first|omega|(simp only[ln];omega)) [idf_Wd', idf_numI, cells_numI, numI_fold, Sp.av, Sp.cells, Sg.av, Sg.cells, spA, spC]) (by simp (disch := first|omega|(simp only[ln];omega))) (by simp) ?_
      simp only [puts_some, updo]
      refine AOPS.all (by simp (disch := first|omega|(simp only[ln];omega)) [idf_Wd', idf_numI, cells_numI, numI_fold, Sp.av, Sp.cells, Sg.av, Sg.cells, spA, spC]; rfl) ?_
      refine hK77 _ ?_
      refine AWP.ret ?_
      exact hK _ _ _ _ trivial ((Fin.mk (by simp [aRes, aResL, aRes1, idf_Wd', idf_numI, cells_numI, numI_fold, Sp.av, Sp.cells, Sg.av, Sg.cells, spA, spC]; rfl)).cast (by rw [hm]; try rfl))
    · simp at h67

end Go.Proofs.Ytmaebeknmiomnaa
