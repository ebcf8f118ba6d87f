/- Walks: the reference's products. -/
import Derived.Test.YtdcggmbnjonemaaG0U

namespace Go.Proofs.Ytdcggmbnjonemaa
open Go Go.RowKit
set_option linter.unusedSimpArgs false
set_option linter.unusedVariables false
set_option maxRecDepth 100000
attribute [local simp] List.getElem?_cons_zero List.getElem?_cons_succ List.getElem?_toArray runOps stepOp.eq_def agd.eq_def dstOk.eq_def opVal.eq_def opNew.eq_def opSto.eq_def ev.eq_def cv.eq_def puts_some puts_none upd_ap lst.eq_def aBin.eq_def aUn.eq_def aBi_str aBi_isl aBi_osl aBi_nsl aBi_max aBi_min aBi_max3 aConv.eq_def aLd.eq_def aLoad.eq_def aField.eq_def aFld.eq_def aIdx_isl aIdx_osl aSlc_isl aSlc_osl aSlc_str aSlc_nsl bnd.eq_def evs_nil evs_cons aBuild.eq_def aFill splice.eq_def cells_agg cells_int cells_bool cells_str cells_nil cells_nsl cells_isl cells_osl cells_ptr cells_ip cells_fn cells_Wd one_int one_bool one_str one_nil one_nsl one_isl one_osl one_ptr one_ip one_fn one_Wd aSets hupd_eq hupd_ne wrap_i64s wrap_u64s wrap_u32s wrap_u8s wd_getD wd_set wd_len wd_replicate wd_one wd_fold fz_osl hupd_same aSix.eq_def aEqS.eq_def aEqB_bool aEqB_nsl aEqB_nil

/-- The variables of 'l1Mul'. -/
def heapS (nx : Nat) (a b : Int) : Heap := hupd (hupd (hupd (fun _ => none) nx (some (2, [[.bool (decide (a < 0)), Wd .u32 (dg a)]]))) (nx + 1) (some (2, [[.bool (decide (b < 0)), Wd .u32 (dg b)]]))) (nx + 1 + 1) (some (2, [[.bool false, .nsl]]))
theorem mul_step32 {x y o c : Int} (hx : 0 ≤ x ∧ x < 4294967296) (hy : 0 ≤ y ∧ y < 4294967296) (ho : 0 ≤ o ∧ o < 4294967296) (hc : 0 ≤ c ∧ c < 4294967296) :
    0 ≤ x * y ∧ x * y ≤ 18446744065119617025 ∧ 0 ≤ (c + x * y + o) / 4294967296 ∧ (c + x * y + o) / 4294967296 < 4294967296 ∧ (c + x * y + o) % 4294967296 + 4294967296 * ((c + x * y + o) / 4294967296) = x * y + o + c := by
  have h := prod_bound x y hx.1 (by omega) hy.1 (by omega)
  generalize x * y = p at *
  omega
theorem sg_mulS (a b : Int) : numS (sg (!(decide (a < 0) == decide (b < 0))) ((a.natAbs : Int) * (b.natAbs : Int))) = numS (a * b) := by
  congr 1
  rw [← Int.natCast_mul, ← Int.natAbs_mul]
  by_cases ha : a < 0 <;> by_cases hb : b < 0
  · have := Int.mul_nonneg (show 0 ≤ -a by omega) (show 0 ≤ -b by omega)
    rw [Int.neg_mul_neg] at this
    simp [sg, ha, hb]; omega
  · have := Int.mul_nonneg (show 0 ≤ -a by omega) (show 0 ≤ b by omega)
    rw [Int.neg_mul] at this
    simp [sg, ha, hb]; omega
  · have := Int.mul_nonneg (show 0 ≤ a by omega) (show 0 ≤ -b by omega)
    rw [Int.mul_neg] at this
    simp [sg, ha, hb]; omega
  · have := Int.mul_nonneg (show 0 ≤ a by omega) (show 0 ≤ b by omega)
    simp [sg, ha, hb]; omega

set_option maxHeartbeats 1000000 in
theorem l1Mul_fc {j k : Nat} {a b : Int} (ha : Bg j a) (hb : Bg k b) (hj : j ≤ 68719476736) (hk : k ≤ 68719476736) : FC Try.prog 102 [numS a, numS b] (numS (a * b)) := by
  have la : (dg a).length ≤ 137438953472 := by have := ha.len32; omega
  have lb : (dg b).length ≤ 137438953472 := by have := hb.len32; omega
  have da := dg_dig a
  have db := dg_dig b
  refine FC.body Try.func102 rfl (by simp [idfL, idf, idfLL_iff, idf_Wd', idf_numS, cells_numS, numS_fold]) (by simp [idfL, idf, idfLL_iff, idf_Wd', idf_numS, cells_numS, numS_fold]) 90 rfl fun nx K hK => ?_
  refine AWP.seqk fun K1 hK1 => ?_
  refine AWP.region (AOPS.all (by simp (disch := first | omega | (simp only [List.length_append, List.length_cons, List.length_nil, List.length_set, List.length_replicate, Int.toNat_natCast]; omega)) [szT4, agT4, unT4, zoT4, byT4, szT90, agT90, elT90, unT90, zoT90, byT90, szT92, agT92, flT92, zoT92, byT92, fdT92_0, fdT92_1, idf_Wd', idf_numS, cells_numS, numS_fold]; rfl) ?_)
  refine hK1 _ ?_
  refine AWP.seqk fun K2 hK2 => ?_
  refine AWP.seqk fun K3 hK3 => ?_
  by_cases ha0 : dg a = []
  · refine AWP.region (AOPS.all (by simp (disch := first | omega | (simp only [List.length_append, List.length_cons, List.length_nil, List.length_set, List.length_replicate, Int.toNat_natCast]; omega)) [szT3, agT3, unT3, zoT3, byT3, szT4, agT4, unT4, zoT4, byT4, szT90, agT90, elT90, unT90, zoT90, byT90, szT92, agT92, flT92, zoT92, byT92, szT180, agT180, unT180, zoT180, byT180, fdT92_0, fdT92_1, len_Wd (P := Try.prog) #[90] rfl elT90, idf_Wd', idf_numS, cells_numS, numS_fold, ha0]; rfl) ?_)
    refine hK3 _ ?_
    refine cond_ok _ (by simp (disch := first | omega | (simp only [List.length_append, List.length_cons, List.length_nil, List.length_set, List.length_replicate, Int.toNat_natCast]; omega)); rfl) (fun h18 => ?_) (fun h18 => ?_)
    · try simp only [decide_eq_true_eq, decide_eq_false_iff_not] at h18
      refine AWP.seqk fun K4 hK4 => ?_
      refine AWP.region (AOPS.all (by simp (disch := first | omega | (simp only [List.length_append, List.length_cons, List.length_nil, List.length_set, List.length_replicate, Int.toNat_natCast]; omega)) [szT4, agT4, unT4, zoT4, byT4, szT90, agT90, elT90, unT90, zoT90, byT90, szT92, agT92, flT92, zoT92, byT92, fdT92_0, fdT92_1, idf_Wd', idf_numS, cells_numS, numS_fold]; rfl) ?_)
      refine hK4 _ ?_
      refine AWP.ret ?_
      exact hK _ _ _ _ trivial ((Fin.mk (r := .agg [.bool false, .nsl]) (by simp [aRes, aResL, aRes1, szT92, agT92, idf_Wd', idf_numS, cells_numS, numS_fold])).weak (by rw [dg_nil.mp ha0, Int.zero_mul]; exact fun _ _ _ _ => nS0_weak))
    · simp at h18
  · have ea : (((dg a).length : Int) == 0) = false := beq_eq_false_iff_ne.mpr (by have := List.length_pos_iff.mpr ha0; omega)
    by_cases hb0 : dg b = []
    · refine AWP.region (AOPS.all (by simp (disch := first | omega | (simp only [List.length_append, List.length_cons, List.length_nil, List.length_set, List.length_replicate, Int.toNat_natCast]; omega)) [szT3, agT3, unT3, zoT3, byT3, szT4, agT4, unT4, zoT4, byT4, szT90, agT90, elT90, unT90, zoT90, byT90, szT92, agT92, flT92, zoT92, byT92, szT180, agT180, unT180, zoT180, byT180, fdT92_0, fdT92_1, len_Wd (P := Try.prog) #[90] rfl elT90, idf_Wd', idf_numS, cells_numS, numS_fold, ea, hb0]; rfl) ?_)
      refine hK3 _ ?_
      refine cond_ok _ (by simp (disch := first | omega | (simp only [List.length_append, List.length_cons, List.length_nil, List.length_set, List.length_replicate, Int.toNat_natCast]; omega)); rfl) (fun h18 => ?_) (fun h18 => ?_)
      · try simp only [decide_eq_true_eq, decide_eq_false_iff_not] at h18
        refine AWP.seqk fun K5 hK5 => ?_
        refine AWP.region (AOPS.all (by simp (disch := first | omega | (simp only [List.length_append, List.length_cons, List.length_nil, List.length_set, List.length_replicate, Int.toNat_natCast]; omega)) [szT4, agT4, unT4, zoT4, byT4, szT90, agT90, elT90, unT90, zoT90, byT90, szT92, agT92, flT92, zoT92, byT92, fdT92_0, fdT92_1, idf_Wd', idf_numS, cells_numS, numS_fold]; rfl) ?_)
        refine hK5 _ ?_
        refine AWP.ret ?_
        exact hK _ _ _ _ trivial ((Fin.mk (r := .agg [.bool false, .nsl]) (by simp [aRes, aResL, aRes1, szT92, agT92, idf_Wd', idf_numS, cells_numS, numS_fold])).weak (by rw [dg_nil.mp hb0, Int.mul_zero]; exact fun _ _ _ _ => nS0_weak))
      · simp at h18
    · have eb : (((dg b).length : Int) == 0) = false := beq_eq_false_iff_ne.mpr (by have := List.length_pos_iff.mpr hb0; omega)
      refine AWP.region (AOPS.all (by simp (disch := first | omega | (simp only [List.length_append, List.length_cons, List.length_nil, List.length_set, List.length_replicate, Int.toNat_natCast]; omega)) [szT3, agT3, unT3, zoT3, byT3, szT4, agT4, unT4, zoT4, byT4, szT90, agT90, elT90, unT90, zoT90, byT90, szT92, agT92, flT92, zoT92, byT92, szT180, agT180, unT180, zoT180, byT180, fdT92_0, fdT92_1, len_Wd (P := Try.prog) #[90] rfl elT90, idf_Wd', idf_numS, cells_numS, numS_fold, ea, eb]; rfl) ?_)
      refine hK3 _ ?_
      refine cond_ok _ (by simp (disch := first | omega | (simp only [List.length_append, List.length_cons, List.length_nil, List.length_set, List.length_replicate, Int.toNat_natCast]; omega)); rfl) (fun h18 => ?_) (fun h18 => ?_)
      · simp at h18
      · try simp only [decide_eq_true_eq, decide_eq_false_iff_not] at h18
        refine AWP.skip ?_
        refine hK2 _ ?_
        refine AWP.seqk fun K6 hK6 => ?_
        refine AWP.region (AOPS.all (by simp (disch := first | omega | (simp only [List.length_append, List.length_cons, List.length_nil, List.length_set, List.length_replicate, Int.toNat_natCast]; omega)) [szT3, agT3, unT3, zoT3, byT3, szT4, agT4, unT4, zoT4, byT4, szT90, agT90, elT90, unT90, zoT90, byT90, szT92, agT92, flT92, zoT92, byT92, szT180, agT180, unT180, zoT180, byT180, fdT92_0, fdT92_1, if_pos, len_Wd (P := Try.prog) #[90] rfl elT90, idf_Wd', idf_numS, cells_numS, numS_fold]; rfl) ?_)
        refine hK6 _ ?_
        refine AWP.seqk fun K7 hK7 => ?_
        refine AWP.seqk fun K8 hK8 => ?_
        refine AWP.region (AOPS.all (by simp (disch := first | omega | (simp only [List.length_append, List.length_cons, List.length_nil, List.length_set, List.length_replicate, Int.toNat_natCast]; omega)) [idf_Wd', idf_numS, cells_numS, numS_fold]; rfl) ?_)
        refine hK8 _ ?_
        refine AWP.block ?_
        refine AWP.loop (fun n s => ∃ i out, n = (dg a).length - i ∧ i ≤ (dg a).length ∧ out.length = (dg a).length + (dg b).length ∧ Dig 4294967296 out ∧ val 4294967296 out = val 4294967296 ((dg a).take i) * val 4294967296 (dg b) ∧ (∀ q, i + (dg b).length ≤ q → gt out q = 0) ∧ s.env 2 = .ptr nx 0 0 ∧ s.env 3 = .ptr (nx + 1) 0 0 ∧ s.env 4 = .ptr (nx + 1 + 1) 0 0 ∧ s.env 5 = .osl (nx + 1 + 1 + 1) 0 ((dg a).length + (dg b).length) ∧ s.env 6 = .int .i64 (i : Int) ∧ s.heap = hupd (heapS nx a b) (nx + 1 + 1 + 1) (some (1, wd .u32 out)) ∧ s.nt = 90) ((dg a).length) (⟨0, List.replicate ((dg a).length + (dg b).length) 0, by omega, by omega, by simp, Dig.replicate _ (by omega) (by omega), by simp [val, val_replicate], by intro q _; simp [gt, List.getElem?_replicate]; split <;> rfl, by simp, by simp, by simp, by simp; omega, by simp, by simp [heapS]; rfl, rfl⟩) ?_
        rintro n ⟨e, H, nx2, nt⟩ ⟨i, out, rfl, hi, ho, hd, hval, hz, h2, h3, h4, h5, h6, rfl, rfl⟩
        simp only [] at h2 h3 h4 h5 h6
        refine AWP.seqk fun K9 hK9 => ?_
        refine AWP.seqk fun K10 hK10 => ?_
        refine AWP.region (AOPS.all (by simp (disch := first | omega | (simp only [List.length_append, List.length_cons, List.length_nil, List.length_set, List.length_replicate, Int.toNat_natCast]; omega)) [szT3, agT3, unT3, zoT3, byT3, szT4, agT4, unT4, zoT4, byT4, szT90, agT90, elT90, unT90, zoT90, byT90, szT92, agT92, flT92, zoT92, byT92, szT180, agT180, unT180, zoT180, byT180, fdT92_0, fdT92_1, len_Wd (P := Try.prog) #[90] rfl elT90, idf_Wd', idf_numS, cells_numS, numS_fold, h2, h6, heapS]; rfl) ?_)
        refine hK10 _ ?_
        refine cond_ok _ (by simp (disch := first | omega | (simp only [List.length_append, List.length_cons, List.length_nil, List.length_set, List.length_replicate, Int.toNat_natCast]; omega)); rfl) (fun h32 => ?_) (fun h32 => ?_)
        · try simp only [decide_eq_true_eq, decide_eq_false_iff_not] at h32
          have hi' : i < (dg a).length := by omega
          refine AWP.skip ?_
          refine hK9 _ ?_
          refine AWP.seqk fun K11 hK11 => ?_
          refine AWP.block ?_
          refine AWP.seqk fun K12 hK12 => ?_
          refine AWP.region (AOPS.all (by simp (disch := first | omega | (simp only [List.length_append, List.length_cons, List.length_nil, List.length_set, List.length_replicate, Int.toNat_natCast]; omega)) [idf_Wd', idf_numS, cells_numS, numS_fold]; rfl) ?_)
          refine hK12 _ ?_
          refine AWP.seqk fun K13 hK13 => ?_
          refine AWP.seqk fun K14 hK14 => ?_
          refine AWP.region (AOPS.all (by simp (disch := first | omega | (simp only [List.length_append, List.length_cons, List.length_nil, List.length_set, List.length_replicate, Int.toNat_natCast]; omega)) [idf_Wd', idf_numS, cells_numS, numS_fold]; rfl) ?_)
          refine hK14 _ ?_
          refine AWP.block ?_
          refine AWP.loop (fun n s => ∃ q out2 c, n = (dg b).length - q ∧ q ≤ (dg b).length ∧ out2.length = (dg a).length + (dg b).length ∧ Dig 4294967296 out2 ∧ 0 ≤ c ∧ c < 4294967296 ∧ val 4294967296 out2 + c * (4294967296 : Int) ^ (i + q) = val 4294967296 ((dg a).take i) * val 4294967296 (dg b) + (4294967296 : Int) ^ i * gt (dg a) i * val 4294967296 ((dg b).take q) ∧ (∀ j, i + (dg b).length ≤ j → gt out2 j = 0) ∧ s.env 2 = .ptr nx 0 0 ∧ s.env 3 = .ptr (nx + 1) 0 0 ∧ s.env 4 = .ptr (nx + 1 + 1) 0 0 ∧ s.env 5 = .osl (nx + 1 + 1 + 1) 0 ((dg a).length + (dg b).length) ∧ s.env 6 = .int .i64 (i : Int) ∧ s.env 7 = .int .u64 c ∧ s.env 8 = .int .i64 (q : Int) ∧ s.heap = hupd (heapS nx a b) (nx + 1 + 1 + 1) (some (1, wd .u32 out2)) ∧ s.nt = 90) ((dg b).length) (⟨0, out, 0, by omega, by omega, ho, hd, by omega, by omega, by simp [val, hval], hz, by simp [h2], by simp [h3], by simp [h4], by simp [h5], by simp [h6], by simp, by simp, by simp [heapS], rfl⟩) ?_
          clear h2 h3 h4 h5 h6
          rintro n ⟨e, H, nx2, nt⟩ ⟨q, out2, c, rfl, hq, ho2, hd2, hc0, hc1, hval2, hz2, h2, h3, h4, h5, h6, h7, h8, rfl, rfl⟩
          simp only [] at h2 h3 h4 h5 h6 h7 h8
          refine AWP.seqk fun K15 hK15 => ?_
          refine AWP.seqk fun K16 hK16 => ?_
          refine AWP.region (AOPS.all (by simp (disch := first | omega | (simp only [List.length_append, List.length_cons, List.length_nil, List.length_set, List.length_replicate, Int.toNat_natCast]; omega)) [szT3, agT3, unT3, zoT3, byT3, szT4, agT4, unT4, zoT4, byT4, szT90, agT90, elT90, unT90, zoT90, byT90, szT92, agT92, flT92, zoT92, byT92, szT180, agT180, unT180, zoT180, byT180, fdT92_0, fdT92_1, len_Wd (P := Try.prog) #[90] rfl elT90, idf_Wd', idf_numS, cells_numS, numS_fold, h3, h8, heapS]; rfl) ?_)
          refine hK16 _ ?_
          refine cond_ok _ (by simp (disch := first | omega | (simp only [List.length_append, List.length_cons, List.length_nil, List.length_set, List.length_replicate, Int.toNat_natCast]; omega)); rfl) (fun h39 => ?_) (fun h39 => ?_)
          · try simp only [decide_eq_true_eq, decide_eq_false_iff_not] at h39
            have hq' : q < (dg b).length := by omega
            have hgx := da.gt (by omega) i
            have hgy := db.gt (by omega) q
            have hgo := hd2.gt (by omega) (i + q)
            have hms := mul_step32 hgx hgy hgo ⟨hc0, hc1⟩
            have hpr0 := hms.1
            have hpr1 := hms.2.1
            have hiq : ((i : Int) + (q : Int)).toNat = i + q := by omega
            refine AWP.skip ?_
            refine hK15 _ ?_
            refine AWP.seqk fun K17 hK17 => ?_
            refine AWP.block ?_
            refine AWP.seqk fun K18 hK18 => ?_
            refine AWP.drawF 23 Try.checked.mixed (by kernel_rfl) (by simp (disch := first | omega | (simp only [List.length_append, List.length_cons, List.length_nil, List.length_set, List.length_replicate, Int.toNat_natCast]; omega)) [runDf.eq_def, runF1, runF2, stepF.eq_def, updo.eq_def, hupo.eq_def, opSto1.eq_def, szT3, agT3, unT3, zoT3, byT3, szT4, agT4, unT4, zoT4, byT4, szT31, agT31, unT31, zoT31, byT31, szT90, agT90, elT90, unT90, zoT90, byT90, szT92, agT92, flT92, zoT92, byT92, szT180, agT180, unT180, zoT180, byT180, fdT92_0, fdT92_1, idx_WdD (P := Try.prog) elT90 szT180, if_pos, idf_Wd', idf_numS, cells_numS, numS_fold, h2, h3, h5, h6, h7, h8, heapS, hiq, ho2, ld_ip agT180]; rfl) ?_
            refine hK18 _ ?_
            refine AWP.seqk fun K19 hK19 => ?_
            refine AWP.region (AOPS.all (by simp (disch := first | omega | (simp only [List.length_append, List.length_cons, List.length_nil, List.length_set, List.length_replicate, Int.toNat_natCast]; omega)) [szT3, agT3, unT3, zoT3, byT3, szT31, agT31, unT31, zoT31, byT31, szT90, agT90, elT90, unT90, zoT90, byT90, szT180, agT180, unT180, zoT180, byT180, idx_WdD (P := Try.prog) elT90 szT180, if_pos, idf_Wd', idf_numS, cells_numS, numS_fold, h5, h6, h8, heapS, hiq, ho2, wrap_u32m]; rfl) ?_)
            refine hK19 _ ?_
            refine AWP.region (AOPS.all (by simp (disch := first | omega | (simp only [List.length_append, List.length_cons, List.length_nil, List.length_set, List.length_replicate, Int.toNat_natCast]; omega)) [szT31, agT31, unT31, zoT31, byT31, idf_Wd', idf_numS, cells_numS, numS_fold, IntKind.bits, Int.fdiv_eq_ediv_of_nonneg]; rfl) ?_)
            refine hK17 _ ?_
            refine AWP.region (AOPS.all (by simp (disch := first | omega | (simp only [List.length_append, List.length_cons, List.length_nil, List.length_set, List.length_replicate, Int.toNat_natCast]; omega)) [szT3, agT3, unT3, zoT3, byT3, idf_Wd', idf_numS, cells_numS, numS_fold, h8]; rfl) ?_)
            have hp1 : (4294967296 : Int) ^ (i + (q + 1)) = (4294967296 : Int) ^ i * (4294967296 : Int) ^ q * 4294967296 := by rw [← Nat.add_assoc, Int.pow_succ, Int.pow_add]
            have hp2 : (4294967296 : Int) ^ (i + q) = (4294967296 : Int) ^ i * (4294967296 : Int) ^ q := Int.pow_add _ _ _
            refine ⟨(dg b).length - (q + 1), by omega, q + 1, out2.set (i + q) ((c + gt (dg a) i * gt (dg b) q + gt out2 (i + q)) % 4294967296), (c + gt (dg a) i * gt (dg b) q + gt out2 (i + q)) / 4294967296, rfl, by omega, by simp [ho2], hd2.set _ (Int.emod_nonneg _ (by omega)) (Int.emod_lt_of_pos _ (by omega)), hms.2.2.1, hms.2.2.2.1, ?_, fun j hj => by rw [gt_set_ne (by omega)]; exact hz2 j (by omega), by simp [h2], by simp [h3], by simp [h4], by simp [h5], by simp [h6], by simp, by simp (disch := omega) [h8], by simp [heapS], rfl⟩
            rw [val_setC (by omega), val_take32, hp1]
            rw [hp2] at hval2 ⊢
            have := hms.2.2.2.2
            grind
          · try simp only [decide_eq_true_eq, decide_eq_false_iff_not] at h39
            obtain rfl : q = (dg b).length := by omega
            refine AWP.exit ?_
            refine hK13 _ ?_
            have hil : ((i : Int) + ((dg b).length : Int)).toNat = i + (dg b).length := by omega
            refine AWP.region (AOPS.all (by simp (disch := first | omega | (simp only [List.length_append, List.length_cons, List.length_nil, List.length_set, List.length_replicate, Int.toNat_natCast]; omega)) [szT3, agT3, unT3, zoT3, byT3, szT4, agT4, unT4, zoT4, byT4, szT31, agT31, unT31, zoT31, byT31, szT90, agT90, elT90, unT90, zoT90, byT90, szT92, agT92, flT92, zoT92, byT92, szT180, agT180, unT180, zoT180, byT180, fdT92_0, fdT92_1, idx_WdD (P := Try.prog) elT90 szT180, if_pos, len_Wd (P := Try.prog) #[90] rfl elT90, idf_Wd', idf_numS, cells_numS, numS_fold, h3, h5, h6, h7, heapS, ho2, hil]; rfl) ?_)
            refine hK11 _ ?_
            refine AWP.region (AOPS.all (by simp (disch := first | omega | (simp only [List.length_append, List.length_cons, List.length_nil, List.length_set, List.length_replicate, Int.toNat_natCast]; omega)) [szT3, agT3, unT3, zoT3, byT3, idf_Wd', idf_numS, cells_numS, numS_fold, h6]; rfl) ?_)
            have hpw : (4294967296 : Int) ^ (i + (dg b).length) = (4294967296 : Int) ^ i * (4294967296 : Int) ^ (dg b).length := Int.pow_add _ _ _
            refine ⟨(dg a).length - (i + 1), by omega, i + 1, out2.set (i + (dg b).length) c, rfl, by omega, by simp [ho2], hd2.set _ hc0 hc1, ?_, fun j hj => by rw [gt_set_ne (by omega)]; exact hz2 j (by omega), by simp [h2], by simp [h3], by simp [h4], by simp [h5], by simp (disch := omega) [h6], by simp [heapS], rfl⟩
            rw [val_take_all (Nat.le_refl _)] at hval2
            rw [val_setC (by omega), hz2 _ (Nat.le_refl _), val_take32]
            grind
        · try simp only [decide_eq_true_eq, decide_eq_false_iff_not] at h32
          obtain rfl : i = (dg a).length := by omega
          refine AWP.exit ?_
          refine hK7 _ ?_
          refine AWP.seqk fun K20 hK20 => ?_
          refine AWP.region ?_
          refine AOPS.runk 6 (by simp (disch := first | omega | (simp only [List.length_append, List.length_cons, List.length_nil, List.length_set, List.length_replicate, Int.toNat_natCast]; omega)) [List.take_succ_cons, List.take_zero, szT4, agT4, unT4, zoT4, byT4, szT90, agT90, elT90, unT90, zoT90, byT90, szT92, agT92, flT92, zoT92, byT92, fdT92_0, fdT92_1, idf_Wd', idf_numS, cells_numS, numS_fold, h2, h3, h4, h5, heapS]; rfl) ?_
          simp only [List.drop_succ_cons, List.drop_zero]
          refine AOPS.frz1 88 (nx + 1 + 1 + 1) 1 (wd .u32 out) (Wd .u32 out) (by simp) (by simp; first | exact fz_wd (by omega) | exact isl_take_wd (by omega)) ?_
          refine AOPS.fcall (l1Trim_fc (!(decide (a < 0) == decide (b < 0))) out (by omega) hd) rfl rfl rfl hb138 (by simp (disch := first | omega | (simp only [List.length_append, List.length_cons, List.length_nil, List.length_set, List.length_replicate, Int.toNat_natCast]; omega)) [idf_Wd', h2, h3, h4, h5, heapS, idf_Wd', idf_numS, cells_numS, numS_fold]) (by simp (disch := first | omega | (simp only [List.length_append, List.length_cons, List.length_nil, List.length_set, List.length_replicate, Int.toNat_natCast]; omega)) [h2, h3, h4, h5, heapS]) (by simp) ?_
          simp only [puts_some, updo]
          refine AOPS.all (by simp (disch := first | omega | (simp only [List.length_append, List.length_cons, List.length_nil, List.length_set, List.length_replicate, Int.toNat_natCast]; omega)) [szT4, agT4, unT4, zoT4, byT4, szT90, agT90, elT90, unT90, zoT90, byT90, szT92, agT92, flT92, zoT92, byT92, fdT92_0, fdT92_1, idf_Wd', idf_numS, cells_numS, numS_fold, h2, h3, h4, h5, heapS]; rfl) ?_
          refine hK20 _ ?_
          refine AWP.ret ?_
          exact hK _ _ _ _ trivial ((Fin.mk (r := numS (sg (!(decide (a < 0) == decide (b < 0))) (val 4294967296 out))) (by simp [aRes, aResL, aRes1, h4, szT92, agT92, idf_Wd', idf_numS, cells_numS, numS_fold])).cast (by rw [hval, val_take_all (Nat.le_refl _), dg_val, dg_val, sg_mulS]))

theorem l1Bits_fc {k : Nat} {z : Int} (hz : Bg k z) (hk : k ≤ 68719476736) : FC Try.prog 136 [Wd .u32 (dg z)] (.int .i64 (bitLen z.natAbs : Int)) := by
  have lz : (dg z).length ≤ 137438953472 := by have := hz.len32; omega
  refine FC.body Try.func136 rfl (by simp [idfL, idf, idfLL_iff, idf_Wd']) (by simp [idfL, idf, idfLL_iff, idf_Wd']) 25 rfl fun nx K hK => ?_
  refine AWP.seqk fun K1 hK1 => ?_
  refine AWP.region (AOPS.all (by simp (disch := first | omega | (simp only [List.length_append, List.length_cons, List.length_nil, List.length_set, List.length_replicate, Int.toNat_natCast]; omega)) [idf_Wd']; rfl) ?_)
  refine hK1 _ ?_
  refine AWP.seqk fun K2 hK2 => ?_
  refine AWP.seqk fun K3 hK3 => ?_
  refine AWP.region (AOPS.all (by simp (disch := first | omega | (simp only [List.length_append, List.length_cons, List.length_nil, List.length_set, List.length_replicate, Int.toNat_natCast]; omega)) [szT3, agT3, unT3, zoT3, byT3, szT90, agT90, elT90, unT90, zoT90, byT90, szT180, agT180, unT180, zoT180, byT180, len_Wd (P := Try.prog) #[90] rfl elT90, idf_Wd']; rfl) ?_)
  refine hK3 _ ?_
  refine cond_ok _ (by simp (disch := first | omega | (simp only [List.length_append, List.length_cons, List.length_nil, List.length_set, List.length_replicate, Int.toNat_natCast]; omega)); rfl) (fun h7 => ?_) (fun h7 => ?_)
  · try simp only [decide_eq_true_eq, decide_eq_false_iff_not] at h7
    have h0 : z = 0 := by simp at h7; exact dg_nil.mp h7
    refine AWP.seqk fun K4 hK4 => ?_
    refine AWP.region (AOPS.all (by simp (disch := first | omega | (simp only [List.length_append, List.length_cons, List.length_nil, List.length_set, List.length_replicate, Int.toNat_natCast]; omega)) [idf_Wd']; rfl) ?_)
    refine hK4 _ ?_
    refine AWP.ret ?_
    exact hK _ _ _ _ trivial (Fin.mk (by simp [aRes, aResL, aRes1, h0, bitLen]))
  · try simp only [decide_eq_true_eq, decide_eq_false_iff_not] at h7
    have h0 : 0 < (dg z).length := by simp at h7; exact List.length_pos_iff.mpr h7
    have hg := (dg_dig z).gt (by omega) ((dg z).length - 1)
    obtain ⟨q, hq⟩ : ∃ q : Nat, gt (dg z) ((dg z).length - 1) = (q : Int) := ⟨_, (Int.toNat_of_nonneg hg.1).symm⟩
    have hs := bitLen_topS z q h0 hq
    have he : (((dg z).length : Int) - 1).toNat = (dg z).length - 1 := by omega
    refine AWP.skip ?_
    refine hK2 _ ?_
    refine AWP.seqk fun K5 hK5 => ?_
    refine AWP.region (AOPS.all (by simp (disch := first | omega | (simp only [List.length_append, List.length_cons, List.length_nil, List.length_set, List.length_replicate, Int.toNat_natCast]; omega)) [szT2, agT2, unT2, zoT2, byT2, szT3, agT3, unT3, zoT3, byT3, szT90, agT90, elT90, unT90, zoT90, byT90, szT180, agT180, unT180, zoT180, byT180, len_Wd (P := Try.prog) #[90] rfl elT90, idf_Wd']; rfl) ?_)
    refine hK5 _ ?_
    refine AWP.seqk fun K6 hK6 => ?_
    refine AWP.region (AOPS.all (by simp (disch := first | omega | (simp only [List.length_append, List.length_cons, List.length_nil, List.length_set, List.length_replicate, Int.toNat_natCast]; omega)) [szT3, agT3, unT3, zoT3, byT3, szT90, agT90, elT90, unT90, zoT90, byT90, szT180, agT180, unT180, zoT180, byT180, idx_WdD (P := Try.prog) elT90 szT180, if_pos, len_Wd (P := Try.prog) #[90] rfl elT90, idf_Wd', he, hq, ld_ip agT180]; rfl) ?_)
    refine hK6 _ ?_
    refine AWP.seqk fun K7 hK7 => ?_
    refine AWP.block ?_
    refine AWP.loop (fun n s => ∃ m : Nat, n = m ∧ m ≤ q ∧ s.env 3 = .int .i64 ((bitLen z.natAbs : Int) - bitLen m) ∧ s.env 4 = .int .u32 (m : Int) ∧ s.heap = (fun _ => none) ∧ s.nt = 25) (q) (⟨q, rfl, Nat.le_refl _, by simp (disch := omega); omega, by simp, rfl, rfl⟩) ?_
    rintro n ⟨e, H, nx2, nt⟩ ⟨m, rfl, hm, h3, h4, rfl, rfl⟩
    simp only [] at h3 h4
    have hb32 : bitLen q ≤ 32 := bitLen_le.mpr (by show q < 4294967296; omega)
    have hbm : bitLen n ≤ 32 := bitLen_le.mpr (by show n < 4294967296; omega)
    refine AWP.seqk fun K8 hK8 => ?_
    refine AWP.seqk fun K9 hK9 => ?_
    refine AWP.region (AOPS.all (by simp (disch := first | omega | (simp only [List.length_append, List.length_cons, List.length_nil, List.length_set, List.length_replicate, Int.toNat_natCast]; omega)) [szT180, agT180, unT180, zoT180, byT180, idf_Wd', h4]; rfl) ?_)
    refine hK9 _ ?_
    refine cond_ok _ (by simp (disch := first | omega | (simp only [List.length_append, List.length_cons, List.length_nil, List.length_set, List.length_replicate, Int.toNat_natCast]; omega)); rfl) (fun h19 => ?_) (fun h19 => ?_)
    · try simp only [decide_eq_true_eq, decide_eq_false_iff_not] at h19
      have hh := bitLen_half (show n ≠ 0 by omega)
      refine AWP.skip ?_
      refine hK8 _ ?_
      refine AWP.block ?_
      refine AWP.seqk fun K10 hK10 => ?_
      refine AWP.region (AOPS.all (by simp (disch := first | omega | (simp only [List.length_append, List.length_cons, List.length_nil, List.length_set, List.length_replicate, Int.toNat_natCast]; omega)) [szT2, agT2, unT2, zoT2, byT2, idf_Wd', h3]; rfl) ?_)
      refine hK10 _ ?_
      refine AWP.region (AOPS.all (by simp (disch := first | omega | (simp only [List.length_append, List.length_cons, List.length_nil, List.length_set, List.length_replicate, Int.toNat_natCast]; omega)) [szT180, agT180, unT180, zoT180, byT180, idf_Wd', h4, IntKind.bits, Int.fdiv_eq_ediv_of_nonneg]; rfl) ?_)
      exact ⟨n / 2, by omega, n / 2, rfl, by omega, by simp (disch := omega); omega, by simp, rfl, rfl⟩
    · try simp only [decide_eq_true_eq, decide_eq_false_iff_not] at h19
      obtain rfl : n = 0 := by omega
      refine AWP.exit ?_
      refine hK7 _ ?_
      refine AWP.seqk fun K11 hK11 => ?_
      refine AWP.region (AOPS.all (by simp (disch := first | omega | (simp only [List.length_append, List.length_cons, List.length_nil, List.length_set, List.length_replicate, Int.toNat_natCast]; omega)) [idf_Wd', h3]; rfl) ?_)
      refine hK11 _ ?_
      refine AWP.ret ?_
      exact hK _ _ _ _ trivial (Fin.mk (by simp [aRes, aResL, aRes1, bitLen]))

end Go.Proofs.Ytdcggmbnjonemaa

/- Walks: the reference's shifts. -/
namespace Go.Proofs.Ytdcggmbnjonemaa
open Go Go.RowKit
set_option linter.unusedSimpArgs false
set_option linter.unusedVariables false
set_option maxRecDepth 100000
attribute [local simp] List.getElem?_cons_zero List.getElem?_cons_succ List.getElem?_toArray runOps stepOp.eq_def agd.eq_def dstOk.eq_def opVal.eq_def opNew.eq_def opSto.eq_def ev.eq_def cv.eq_def puts_some puts_none upd_ap lst.eq_def aBin.eq_def aUn.eq_def aBi_str aBi_isl aBi_osl aBi_nsl aBi_max aBi_min aBi_max3 aConv.eq_def aLd.eq_def aLoad.eq_def aField.eq_def aFld.eq_def aIdx_isl aIdx_osl aSlc_isl aSlc_osl aSlc_str aSlc_nsl bnd.eq_def evs_nil evs_cons aBuild.eq_def aFill splice.eq_def cells_agg cells_int cells_bool cells_str cells_nil cells_nsl cells_isl cells_osl cells_ptr cells_ip cells_fn cells_Wd one_int one_bool one_str one_nil one_nsl one_isl one_osl one_ptr one_ip one_fn one_Wd aSets hupd_eq hupd_ne wrap_i64s wrap_u64s wrap_u32s wrap_u8s wd_getD wd_set wd_len wd_replicate wd_one wd_fold fz_osl hupd_same aSix.eq_def aEqS.eq_def aEqB_bool aEqB_nsl aEqB_nil

theorem fld_numS (z : Int) : aFld Try.prog 92 (numS z) 1 = some (Wd .u32 (dg z)) := by
  simp only [aFld, numS, fdT92_1, agT90]; rfl

set_option maxHeartbeats 2000000 in
theorem l1Left_fc (d : List Int) (dd : Dig 4294967296 d) (q k : Nat) (hq : q ≤ 1073741824) (hk : k < 32) (hd : d.length ≤ 68719476736) : FC Try.prog 140 [Wd .u32 d, .int .i64 ((32 * q + k : Nat) : Int)] (Wd .u32 (dg (4294967296 ^ q * (val 4294967296 d * 2 ^ k)))) := by
  have hp1 : (1 : Int) ≤ 2 ^ k := by have : (0 : Int) < 2 ^ k := Int.pow_pos (by omega); omega
  have hp2 : (2 : Int) ^ k ≤ 2147483648 := by
    have : (2 : Nat) ^ k ≤ 2 ^ 31 := Nat.pow_le_pow_right (by omega) (by omega)
    have e : (((2 ^ k : Nat)) : Int) = (2 : Int) ^ k := by simp
    rw [← e]; have e2 : (2 : Nat) ^ 31 = 2147483648 := rfl; omega
  have hls := leftL_spec dd q hp1 hp2
  have ht1 : ((32 * q + k : Nat) : Int).tdiv 32 = q := by rw [Int.tdiv_eq_ediv_of_nonneg (by omega)]; omega
  have ht2 : ((32 * q + k : Nat) : Int).tmod 32 = k := by rw [Int.tmod_eq_emod_of_nonneg (by omega)]; omega
  have hmin : min k 64 = k := by omega
  generalize hN : ((32 * q + k : Nat) : Int) = N at *
  refine FC.body Try.func140 rfl (by simp [idfL, idf, idfLL_iff, idf_Wd', idf_numS, cells_numS, numS_fold]) (by simp [idfL, idf, idfLL_iff, idf_Wd', idf_numS, cells_numS, numS_fold]) 47 rfl fun nx K hK => ?_
  refine AWP.seqk fun K1 hK1 => ?_
  refine AWP.region (AOPS.all (by simp (disch := first | omega | (simp only [List.length_append, List.length_cons, List.length_nil, List.length_set, List.length_replicate, Int.toNat_natCast]; omega)) [idf_Wd', idf_numS, cells_numS, numS_fold]; rfl) ?_)
  refine hK1 _ ?_
  refine AWP.seqk fun K2 hK2 => ?_
  refine AWP.region (AOPS.all (by simp (disch := first | omega | (simp only [List.length_append, List.length_cons, List.length_nil, List.length_set, List.length_replicate, Int.toNat_natCast]; omega)) [szT2, agT2, unT2, zoT2, byT2, szT90, agT90, elT90, unT90, zoT90, byT90, szT180, agT180, unT180, zoT180, byT180, if_pos, idf_Wd', idf_numS, cells_numS, numS_fold, ht1]; rfl) ?_)
  refine hK2 _ ?_
  refine AWP.seqk fun K3 hK3 => ?_
  refine AWP.region (AOPS.all (by simp (disch := first | omega | (simp only [List.length_append, List.length_cons, List.length_nil, List.length_set, List.length_replicate, Int.toNat_natCast]; omega)) [szT2, agT2, unT2, zoT2, byT2, szT144, agT144, unT144, zoT144, byT144, idf_Wd', idf_numS, cells_numS, numS_fold, ht2]; rfl) ?_)
  refine hK3 _ ?_
  refine AWP.seqk fun K4 hK4 => ?_
  refine AWP.region (AOPS.all (by simp (disch := first | omega | (simp only [List.length_append, List.length_cons, List.length_nil, List.length_set, List.length_replicate, Int.toNat_natCast]; omega)) [idf_Wd', idf_numS, cells_numS, numS_fold]; rfl) ?_)
  refine hK4 _ ?_
  refine AWP.seqk fun K5 hK5 => ?_
  refine AWP.seqk fun K6 hK6 => ?_
  refine AWP.region (AOPS.all (by simp (disch := first | omega | (simp only [List.length_append, List.length_cons, List.length_nil, List.length_set, List.length_replicate, Int.toNat_natCast]; omega)) [idf_Wd', idf_numS, cells_numS, numS_fold]; rfl) ?_)
  refine hK6 _ ?_
  refine AWP.block ?_
  refine AWP.loop (fun n s => ∃ i id, n = d.length - i ∧ i ≤ d.length ∧ s.env 0 = Wd .u32 d ∧ s.env 5 = .osl id 0 (q + i) ∧ s.env 6 = .int .u64 (k : Int) ∧ s.env 7 = .int .u64 (leftR d (2 ^ k) i).2 ∧ s.env 8 = .int .i64 (i : Int) ∧ s.heap id = some (1, wd .u32 (List.replicate q 0 ++ (leftR d (2 ^ k) i).1)) ∧ id < s.nx ∧ s.nt = 47) (d.length) (⟨0, nx, by omega, by omega, by simp, by simp, by simp, by simp [leftR], by simp, by simp [leftR], by simp, rfl⟩) ?_
  rintro n ⟨e, H, m, nt⟩ ⟨i, id, rfl, hi, h0, h5, h6, h7, h8, hH, hid, rfl⟩
  simp only [] at h0 h5 h6 h7 h8 hH hid
  obtain ⟨r1, r2, r3, r4, r5⟩ := leftR_spec dd hp1 i
  have hlen : (List.replicate q (0 : Int) ++ (leftR d (2 ^ k) i).1).length = q + i := by simp [r1]
  have ht : List.take (q + i) (List.replicate q (0 : Int) ++ (leftR d (2 ^ k) i).1) = List.replicate q (0 : Int) ++ (leftR d (2 ^ k) i).1 := List.take_of_length_le (by omega)
  refine AWP.seqk fun K7 hK7 => ?_
  refine AWP.seqk fun K8 hK8 => ?_
  refine AWP.region (AOPS.all (by simp (disch := first | omega | (simp only [List.length_append, List.length_cons, List.length_nil, List.length_set, List.length_replicate, Int.toNat_natCast]; omega)) [szT3, agT3, unT3, zoT3, byT3, szT90, agT90, elT90, unT90, zoT90, byT90, szT180, agT180, unT180, zoT180, byT180, len_Wd (P := Try.prog) #[90] rfl elT90, idf_Wd', idf_numS, cells_numS, numS_fold, h0, h8]; rfl) ?_)
  refine hK8 _ ?_
  refine cond_ok _ (by simp (disch := first | omega | (simp only [List.length_append, List.length_cons, List.length_nil, List.length_set, List.length_replicate, Int.toNat_natCast]; omega)); rfl) (fun h18 => ?_) (fun h18 => ?_)
  · try simp only [decide_eq_true_eq, decide_eq_false_iff_not] at h18
    have hi' : i < d.length := by omega
    have gd := dd.gt (by omega) i
    have hm0 : 0 ≤ gt d i * 2 ^ k := Int.mul_nonneg gd.1 (by omega)
    have hm1 : gt d i * 2 ^ k ≤ 4294967295 * 2147483648 := Int.mul_le_mul (by omega) hp2 (by omega) (by omega)
    have hor := or_join r3 r4 gd.1 (by omega) (by omega)
    refine AWP.skip ?_
    refine hK7 _ ?_
    refine AWP.seqk fun K9 hK9 => ?_
    refine AWP.block ?_
    refine AWP.seqk fun K10 hK10 => ?_
    refine AWP.region (AOPS.all (by simp (disch := first | omega | (simp only [List.length_append, List.length_cons, List.length_nil, List.length_set, List.length_replicate, Int.toNat_natCast]; omega)) [szT31, agT31, unT31, zoT31, byT31, szT90, agT90, elT90, unT90, zoT90, byT90, szT180, agT180, unT180, zoT180, byT180, idx_WdD (P := Try.prog) elT90 szT180, if_pos, idf_Wd', idf_numS, cells_numS, numS_fold, h0, h6, h7, h8, hmin, hor, IntKind.bits, ld_ip agT180]; rfl) ?_)
    refine hK10 _ ?_
    refine AWP.seqk fun K11 hK11 => ?_
    refine AWP.region ?_
    refine AOPS.runk 4 (by simp (disch := first | omega | (simp only [List.length_append, List.length_cons, List.length_nil, List.length_set, List.length_replicate, Int.toNat_natCast]; omega)) [List.take_succ_cons, List.take_zero, szT31, agT31, unT31, zoT31, byT31, szT90, agT90, elT90, unT90, zoT90, byT90, szT180, agT180, unT180, zoT180, byT180, idf_Wd', idf_numS, cells_numS, numS_fold, h5, hH, r1, ht, hlen, Nat.ne_of_lt hid]; rfl) ?_
    simp only [List.drop_succ_cons, List.drop_zero]
    refine AOPS.opapp (by simp (disch := first | omega | (simp only [List.length_append, List.length_cons, List.length_nil, List.length_set, List.length_replicate, Int.toNat_natCast]; omega)) [opApp.eq_def, aSrc_isl, aSrc_osl, aSrc_nsl, aSrc_int, wd_app, wd_app2, if_pos, wd_append, wd_take, wd_drop, List.nil_append, szT31, agT31, unT31, zoT31, byT31, szT90, agT90, elT90, unT90, zoT90, byT90, szT180, agT180, unT180, zoT180, byT180, idf_Wd', idf_numS, cells_numS, numS_fold, h5, hH, r1, ht, hlen, Nat.ne_of_lt hid, src_Wd' (P := Try.prog) elT90]; first | rfl | exact ⟨rfl, rfl, rfl⟩) (by simp) (by simp) ?_
    simp only [puts_some, hdrop]
    refine AOPS.all (by simp (disch := first | omega | (simp only [List.length_append, List.length_cons, List.length_nil, List.length_set, List.length_replicate, Int.toNat_natCast]; omega)) [szT31, agT31, unT31, zoT31, byT31, szT90, agT90, elT90, unT90, zoT90, byT90, szT180, agT180, unT180, zoT180, byT180, idf_Wd', idf_numS, cells_numS, numS_fold, h5, hH, r1, ht, hlen, Nat.ne_of_lt hid]; rfl) ?_
    refine hK11 _ ?_
    refine AWP.region (AOPS.all (by simp (disch := first | omega | (simp only [List.length_append, List.length_cons, List.length_nil, List.length_set, List.length_replicate, Int.toNat_natCast]; omega)) [szT31, agT31, unT31, zoT31, byT31, idf_Wd', idf_numS, cells_numS, numS_fold, IntKind.bits, Int.fdiv_eq_ediv_of_nonneg]; rfl) ?_)
    refine hK9 _ ?_
    refine AWP.region (AOPS.all (by simp (disch := first | omega | (simp only [List.length_append, List.length_cons, List.length_nil, List.length_set, List.length_replicate, Int.toNat_natCast]; omega)) [szT3, agT3, unT3, zoT3, byT3, idf_Wd', idf_numS, cells_numS, numS_fold, h8]; rfl) ?_)
    refine ⟨d.length - (i + 1), by omega, i + 1, m + 1, rfl, by omega, by simp [h0], by simp [r1] <;> omega, by simp [h6], by simp [leftR], by simp (disch := omega) [h8], by simp [leftR, ht, wrap_u32m], by simp, rfl⟩
  · try simp only [decide_eq_true_eq, decide_eq_false_iff_not] at h18
    obtain rfl : i = d.length := by omega
    refine AWP.exit ?_
    refine hK5 _ ?_
    refine AWP.seqk fun K12 hK12 => ?_
    refine AWP.seqk fun K13 hK13 => ?_
    refine AWP.region (AOPS.all (by simp (disch := first | omega | (simp only [List.length_append, List.length_cons, List.length_nil, List.length_set, List.length_replicate, Int.toNat_natCast]; omega)) [szT31, agT31, unT31, zoT31, byT31, idf_Wd', idf_numS, cells_numS, numS_fold, h7]; rfl) ?_)
    refine hK13 _ ?_
    refine cond_ok _ (by simp (disch := first | omega | (simp only [List.length_append, List.length_cons, List.length_nil, List.length_set, List.length_replicate, Int.toNat_natCast]; omega)); rfl) (fun h38 => ?_) (fun h38 => ?_)
    · try simp only [decide_eq_true_eq, decide_eq_false_iff_not] at h38
      have hc : 0 < (leftR d (2 ^ k) d.length).2 := by omega
      have hm2 : (leftR d (2 ^ k) d.length).2 % 4294967296 = (leftR d (2 ^ k) d.length).2 := Int.emod_eq_of_lt r3 (by omega)
      refine AWP.region ?_
      refine AOPS.runk 4 (by simp (disch := first | omega | (simp only [List.length_append, List.length_cons, List.length_nil, List.length_set, List.length_replicate, Int.toNat_natCast]; omega)) [List.take_succ_cons, List.take_zero, szT31, agT31, unT31, zoT31, byT31, szT90, agT90, elT90, unT90, zoT90, byT90, szT180, agT180, unT180, zoT180, byT180, idf_Wd', idf_numS, cells_numS, numS_fold, h5, h7, hH, r1, ht, hlen, Nat.ne_of_lt hid]; rfl) ?_
      simp only [List.drop_succ_cons, List.drop_zero]
      refine AOPS.opapp (by simp (disch := first | omega | (simp only [List.length_append, List.length_cons, List.length_nil, List.length_set, List.length_replicate, Int.toNat_natCast]; omega)) [opApp.eq_def, aSrc_isl, aSrc_osl, aSrc_nsl, aSrc_int, wd_app, wd_app2, if_pos, wd_append, wd_take, wd_drop, List.nil_append, szT31, agT31, unT31, zoT31, byT31, szT90, agT90, elT90, unT90, zoT90, byT90, szT180, agT180, unT180, zoT180, byT180, idf_Wd', idf_numS, cells_numS, numS_fold, h5, h7, hH, r1, ht, hlen, Nat.ne_of_lt hid, src_Wd' (P := Try.prog) elT90]; first | rfl | exact ⟨rfl, rfl, rfl⟩) (by simp) (by simp) ?_
      simp only [puts_some, hdrop]
      refine AOPS.all (by simp (disch := first | omega | (simp only [List.length_append, List.length_cons, List.length_nil, List.length_set, List.length_replicate, Int.toNat_natCast]; omega)) [szT31, agT31, unT31, zoT31, byT31, szT90, agT90, elT90, unT90, zoT90, byT90, szT180, agT180, unT180, zoT180, byT180, idf_Wd', idf_numS, cells_numS, numS_fold, h5, h7, hH, r1, ht, hlen, Nat.ne_of_lt hid]; rfl) ?_
      refine hK12 _ ?_
      refine AWP.seqk fun K14 hK14 => ?_
      refine AWP.region ?_
      refine AOPS.runk 1 (by simp (disch := first | omega | (simp only [List.length_append, List.length_cons, List.length_nil, List.length_set, List.length_replicate, Int.toNat_natCast]; omega)) [List.take_succ_cons, List.take_zero, szT4, agT4, unT4, zoT4, byT4, szT90, agT90, elT90, unT90, zoT90, byT90, szT92, agT92, flT92, zoT92, byT92, fdT92_0, fdT92_1, idf_Wd', idf_numS, cells_numS, numS_fold, h5]; rfl) ?_
      simp only [List.drop_succ_cons, List.drop_zero]
      refine AOPS.frz1 44 (m + 1) 1 (wd .u32 (leftL d q (2 ^ k))) (Wd .u32 (leftL d q (2 ^ k))) (by simp [leftL, hc, wrap_u32m, ht, hm2, hH]) (by simp [h5, r1]; first | exact fz_wd (by simp [leftL, hc, r1]; try omega) | exact isl_take_wd (by simp [leftL, hc, r1]; try omega)) ?_
      refine AOPS.fcall (l1Trim_fc false (leftL d q (2 ^ k)) (by omega) hls.1) rfl rfl rfl hb138 (by simp) (by simp) (by simp) ?_
      simp only [puts_some]
      refine AOPS.opval (Wd .u32 (dg (sg false (val 4294967296 (leftL d q (2 ^ k)))))) (fld_numS _) (by simp) (by simp) ?_
      simp only [puts_some]
      refine AOPS.all (by simp; rfl) ?_
      refine hK14 _ ?_
      refine AWP.ret ?_
      exact hK _ _ _ _ trivial ((Fin.mk (r := Wd .u32 (dg (sg false (val 4294967296 (leftL d q (2 ^ k)))))) (by simp [aRes, aResL, aRes1])).cast (by rw [sg_false, hls.2.2]))
    · try simp only [decide_eq_true_eq, decide_eq_false_iff_not] at h38
      have hc : ¬ 0 < (leftR d (2 ^ k) d.length).2 := by omega
      have hm2 : True := trivial
      refine AWP.skip ?_
      refine hK12 _ ?_
      refine AWP.seqk fun K15 hK15 => ?_
      refine AWP.region ?_
      refine AOPS.runk 1 (by simp (disch := first | omega | (simp only [List.length_append, List.length_cons, List.length_nil, List.length_set, List.length_replicate, Int.toNat_natCast]; omega)) [List.take_succ_cons, List.take_zero, szT4, agT4, unT4, zoT4, byT4, szT90, agT90, elT90, unT90, zoT90, byT90, szT92, agT92, flT92, zoT92, byT92, fdT92_0, fdT92_1, idf_Wd', idf_numS, cells_numS, numS_fold, h5]; rfl) ?_
      simp only [List.drop_succ_cons, List.drop_zero]
      refine AOPS.frz1 44 (id) 1 (wd .u32 (leftL d q (2 ^ k))) (Wd .u32 (leftL d q (2 ^ k))) (by simp [leftL, hc, wrap_u32m, ht, hm2, hH]) (by simp [h5, r1]; first | exact fz_wd (by simp [leftL, hc, r1]; try omega) | exact isl_take_wd (by simp [leftL, hc, r1]; try omega)) ?_
      refine AOPS.fcall (l1Trim_fc false (leftL d q (2 ^ k)) (by omega) hls.1) rfl rfl rfl hb138 (by simp) (by simp) (by simp) ?_
      simp only [puts_some]
      refine AOPS.opval (Wd .u32 (dg (sg false (val 4294967296 (leftL d q (2 ^ k)))))) (fld_numS _) (by simp) (by simp) ?_
      simp only [puts_some]
      refine AOPS.all (by simp; rfl) ?_
      refine hK15 _ ?_
      refine AWP.ret ?_
      exact hK _ _ _ _ trivial ((Fin.mk (r := Wd .u32 (dg (sg false (val 4294967296 (leftL d q (2 ^ k)))))) (by simp [aRes, aResL, aRes1])).cast (by rw [sg_false, hls.2.2]))

set_option maxHeartbeats 2000000 in
theorem l1From_fc (w3 w2 w1 w0 : Int) (h3 : U64 w3) (h2 : U64 w2) (h1 : U64 w1) (h0 : U64 w0) : FC Try.prog 106 [wdI w3 w2 w1 w0] (numS (sval w3 w2 w1 w0)) := by
  refine FC.body Try.func106 rfl (by simp [idfL, idf, wdI]) (by simp [idfL, idf, idfLL_iff, idf_Wd', idf_numS, cells_numS, numS_fold]) 47 rfl fun nx K hK => ?_
  unfold wdI
  unfold U64 at h0 h1 h2 h3
  have hd8 := dig8 h0 h1 h2 h3
  have hv8 := val8 w3 w2 w1 w0
  refine AWP.seqk fun K1 hK1 => ?_
  refine AWP.region (AOPS.all (by simp (disch := first | omega | (simp only [List.length_append, List.length_cons, List.length_nil, List.length_set, List.length_replicate, Int.toNat_natCast]; omega)) [szT4, agT4, unT4, zoT4, byT4, szT31, agT31, unT31, zoT31, byT31, szT33, agT33, flT33, zoT33, byT33, szT90, agT90, elT90, unT90, zoT90, byT90, szT92, agT92, flT92, zoT92, byT92, fdT33_0, fdT33_1, fdT33_2, fdT33_3, fdT92_0, fdT92_1, idf_Wd', idf_numS, cells_numS, numS_fold]; rfl) ?_)
  refine hK1 _ ?_
  refine AWP.seqk fun K2 hK2 => ?_
  refine AWP.region (AOPS.all (by simp (disch := first | omega | (simp only [List.length_append, List.length_cons, List.length_nil, List.length_set, List.length_replicate, Int.toNat_natCast]; omega)) [szT31, agT31, unT31, zoT31, byT31, szT33, agT33, flT33, zoT33, byT33, fdT33_0, fdT33_1, fdT33_2, fdT33_3, idf_Wd', idf_numS, cells_numS, numS_fold, IntKind.bits, Int.fdiv_eq_ediv_of_nonneg]; rfl) ?_)
  refine hK2 _ ?_
  refine AWP.seqk fun K3 hK3 => ?_
  refine AWP.region (AOPS.all (by simp (disch := first | omega | (simp only [List.length_append, List.length_cons, List.length_nil, List.length_set, List.length_replicate, Int.toNat_natCast]; omega)) [szT31, agT31, unT31, zoT31, byT31, szT33, agT33, flT33, zoT33, byT33, szT90, agT90, elT90, unT90, zoT90, byT90, szT180, agT180, unT180, zoT180, byT180, fdT33_0, fdT33_1, fdT33_2, fdT33_3, idf_Wd', idf_numS, cells_numS, numS_fold, IntKind.bits, Int.fdiv_eq_ediv_of_nonneg, wrap_u32m]; rfl) ?_)
  refine hK3 _ ?_
  refine AWP.seqk fun K4 hK4 => ?_
  refine AWP.seqk fun K5 hK5 => ?_
  refine AWP.region (AOPS.all (by simp (disch := first | omega | (simp only [List.length_append, List.length_cons, List.length_nil, List.length_set, List.length_replicate, Int.toNat_natCast]; omega)) [idf_Wd', idf_numS, cells_numS, numS_fold]; rfl) ?_)
  refine hK5 _ ?_
  refine cond_ok (!(w3 / 9223372036854775808 == 1)) (by simp (disch := first | omega | (simp only [List.length_append, List.length_cons, List.length_nil, List.length_set, List.length_replicate, Int.toNat_natCast]; omega))) (fun h39 => ?_) (fun h39 => ?_)
  · try simp only [decide_eq_true_eq, decide_eq_false_iff_not] at h39
    have hs : w3 < 9223372036854775808 := by simp at h39; omega
    refine AWP.seqk fun K6 hK6 => ?_
    refine AWP.region ?_
    refine AOPS.runk 1 (by simp (disch := first | omega | (simp only [List.length_append, List.length_cons, List.length_nil, List.length_set, List.length_replicate, Int.toNat_natCast]; omega)) [List.take_succ_cons, List.take_zero, szT4, agT4, unT4, zoT4, byT4, szT90, agT90, elT90, unT90, zoT90, byT90, szT92, agT92, flT92, zoT92, byT92, fdT92_0, fdT92_1, idf_Wd', idf_numS, cells_numS, numS_fold]; rfl) ?_
    simp only [List.drop_succ_cons, List.drop_zero]
    refine AOPS.frz1 40 (nx + 1 + 1) 1 (wd .u32 (row8 w3 w2 w1 w0)) (Wd .u32 (row8 w3 w2 w1 w0)) (by simp [row8]) (by simp; first | exact fz_wd rfl | exact isl_take_wd (by simp [row8])) ?_
    refine AOPS.fcall (l1Trim_fc false (row8 w3 w2 w1 w0) (by simp [row8]) hd8) rfl rfl rfl hb138 (by simp (disch := first | omega | (simp only [List.length_append, List.length_cons, List.length_nil, List.length_set, List.length_replicate, Int.toNat_natCast]; omega)) [idf_Wd', idf_Wd', idf_numS, cells_numS, numS_fold]) (by simp (disch := first | omega | (simp only [List.length_append, List.length_cons, List.length_nil, List.length_set, List.length_replicate, Int.toNat_natCast]; omega))) (by simp) ?_
    simp only [puts_some, updo]
    refine AOPS.all (by simp (disch := first | omega | (simp only [List.length_append, List.length_cons, List.length_nil, List.length_set, List.length_replicate, Int.toNat_natCast]; omega)) [szT4, agT4, unT4, zoT4, byT4, szT90, agT90, elT90, unT90, zoT90, byT90, szT92, agT92, flT92, zoT92, byT92, fdT92_0, fdT92_1, idf_Wd', idf_numS, cells_numS, numS_fold]; rfl) ?_
    refine hK6 _ ?_
    refine AWP.ret ?_
    exact hK _ _ _ _ trivial ((Fin.mk (r := numS (sg false (val 4294967296 (row8 w3 w2 w1 w0)))) (by simp [aRes, aResL, aRes1, szT92, agT92, idf_Wd', idf_numS, cells_numS, numS_fold])).cast (by rw [sg_false, hv8, sval, if_pos hs]))
  · try simp only [decide_eq_true_eq, decide_eq_false_iff_not] at h39
    have hs : ¬ w3 < 9223372036854775808 := by simp at h39; omega
    have hu : 0 ≤ uval w3 w2 w1 w0 ∧ uval w3 w2 w1 w0 < 115792089237316195423570985008687907853269984665640564039457584007913129639936 := by unfold uval; omega
    have hP : (4294967296 : Int) ^ 8 * (val 4294967296 [1] * 2 ^ 0) = 115792089237316195423570985008687907853269984665640564039457584007913129639936 := by simp [val]
    have hsu := subS_spec (dg_dig ((4294967296 : Int) ^ 8 * (val 4294967296 [1] * 2 ^ 0))) hd8 (by rw [hP]; exact row8_len _ _ _ _) (by rw [dg_val, hP, hv8]; omega)
    rw [dg_val, hP, hv8] at hsu
    refine AWP.skip ?_
    refine hK4 _ ?_
    refine AWP.seqk fun K7 hK7 => ?_
    refine AWP.region ?_
    refine AOPS.runk 1 (by simp (disch := first | omega | (simp only [List.length_append, List.length_cons, List.length_nil, List.length_set, List.length_replicate, Int.toNat_natCast]; omega)) [List.take_succ_cons, List.take_zero, szT4, agT4, unT4, zoT4, byT4, szT90, agT90, elT90, unT90, zoT90, byT90, szT92, agT92, flT92, zoT92, byT92, szT180, agT180, unT180, zoT180, byT180, fdT92_0, fdT92_1, idf_Wd', idf_numS, cells_numS, numS_fold]; rfl) ?_
    simp only [List.drop_succ_cons, List.drop_zero]
    refine AOPS.frz1 42 (nx + 1 + 1 + 1) 1 (wd .u32 [1]) (Wd .u32 [1]) (by simp) (by simp; first | exact fz_wd rfl | exact isl_take_wd (by simp)) ?_
    refine AOPS.fcall (l1Left_fc [1] (Dig.cons (by omega) (by omega) (Dig.nil _)) 8 0 (by omega) (by omega) (by simp)) rfl rfl rfl hb140 (by simp (disch := first | omega | (simp only [List.length_append, List.length_cons, List.length_nil, List.length_set, List.length_replicate, Int.toNat_natCast]; omega)) [idf_Wd', idf_Wd', idf_numS, cells_numS, numS_fold]) (by simp (disch := first | omega | (simp only [List.length_append, List.length_cons, List.length_nil, List.length_set, List.length_replicate, Int.toNat_natCast]; omega))) (by simp) ?_
    simp only [puts_some, updo]
    refine AOPS.runk 1 (by simp (disch := first | omega | (simp only [List.length_append, List.length_cons, List.length_nil, List.length_set, List.length_replicate, Int.toNat_natCast]; omega)) [List.take_succ_cons, List.take_zero, szT4, agT4, unT4, zoT4, byT4, szT90, agT90, elT90, unT90, zoT90, byT90, szT92, agT92, flT92, zoT92, byT92, szT180, agT180, unT180, zoT180, byT180, fdT92_0, fdT92_1, idf_Wd', idf_numS, cells_numS, numS_fold]; rfl) ?_
    simp only [List.drop_succ_cons, List.drop_zero]
    refine AOPS.frz1 44 (nx + 1 + 1) 1 (wd .u32 (row8 w3 w2 w1 w0)) (Wd .u32 (row8 w3 w2 w1 w0)) (by simp [row8]) (by simp; first | exact fz_wd rfl | exact isl_take_wd (by simp [row8])) ?_
    refine AOPS.fcall (l1SubAbs_fc (dg ((4294967296 : Int) ^ 8 * (val 4294967296 [1] * 2 ^ 0))) (row8 w3 w2 w1 w0) (by rw [hP]; exact Nat.le_trans (row8_top) (by omega)) (dg_dig _) hd8) rfl rfl rfl hb145 (by simp (disch := first | omega | (simp only [List.length_append, List.length_cons, List.length_nil, List.length_set, List.length_replicate, Int.toNat_natCast]; omega)) [idf_Wd', idf_Wd', idf_numS, cells_numS, numS_fold]) (by simp (disch := first | omega | (simp only [List.length_append, List.length_cons, List.length_nil, List.length_set, List.length_replicate, Int.toNat_natCast]; omega))) (by simp) ?_
    simp only [puts_some, updo]
    refine AOPS.fcall (l1Trim_fc true (subS (dg ((4294967296 : Int) ^ 8 * (val 4294967296 [1] * 2 ^ 0))) (row8 w3 w2 w1 w0)) (by rw [hP, hsu.2.1]; exact Nat.le_trans (row8_top) (by omega)) (by rw [hP]; exact hsu.1)) rfl rfl rfl hb138 (by simp (disch := first | omega | (simp only [List.length_append, List.length_cons, List.length_nil, List.length_set, List.length_replicate, Int.toNat_natCast]; omega)) [idf_Wd', idf_Wd', idf_numS, cells_numS, numS_fold]) (by simp (disch := first | omega | (simp only [List.length_append, List.length_cons, List.length_nil, List.length_set, List.length_replicate, Int.toNat_natCast]; omega))) (by simp) ?_
    simp only [puts_some, updo]
    refine AOPS.all (by simp (disch := first | omega | (simp only [List.length_append, List.length_cons, List.length_nil, List.length_set, List.length_replicate, Int.toNat_natCast]; omega)) [szT4, agT4, unT4, zoT4, byT4, szT90, agT90, elT90, unT90, zoT90, byT90, szT92, agT92, flT92, zoT92, byT92, szT180, agT180, unT180, zoT180, byT180, fdT92_0, fdT92_1, idf_Wd', idf_numS, cells_numS, numS_fold]; rfl) ?_
    refine hK7 _ ?_
    refine AWP.ret ?_
    exact hK _ _ _ _ trivial ((Fin.mk (r := numS (sg true (val 4294967296 (subS (dg ((4294967296 : Int) ^ 8 * (val 4294967296 [1] * 2 ^ 0))) (row8 w3 w2 w1 w0))))) (by simp [aRes, aResL, aRes1, szT92, agT92, idf_Wd', idf_numS, cells_numS, numS_fold])).cast (by rw [sg_true, hP, hsu.2.2, sval, if_neg hs]; congr 1; omega))

end Go.Proofs.Ytdcggmbnjonemaa

/- Walks: the reference's numbers told in 256 bits. -/
namespace Go.Proofs.Ytdcggmbnjonemaa
open Go Go.RowKit
set_option linter.unusedSimpArgs false
set_option linter.unusedVariables false
set_option maxRecDepth 100000
attribute [local simp] List.getElem?_cons_zero List.getElem?_cons_succ List.getElem?_toArray runOps stepOp.eq_def agd.eq_def dstOk.eq_def opVal.eq_def opNew.eq_def opSto.eq_def ev.eq_def cv.eq_def puts_some puts_none upd_ap lst.eq_def aBin.eq_def aUn.eq_def aBi_str aBi_isl aBi_osl aBi_nsl aBi_max aBi_min aBi_max3 aConv.eq_def aLd.eq_def aLoad.eq_def aField.eq_def aFld.eq_def aIdx_isl aIdx_osl aSlc_isl aSlc_osl aSlc_str aSlc_nsl bnd.eq_def evs_nil evs_cons aBuild.eq_def aFill splice.eq_def cells_agg cells_int cells_bool cells_str cells_nil cells_nsl cells_isl cells_osl cells_ptr cells_ip cells_fn cells_Wd one_int one_bool one_str one_nil one_nsl one_isl one_osl one_ptr one_ip one_fn one_Wd aSets hupd_eq hupd_ne wrap_i64s wrap_u64s wrap_u32s wrap_u8s wd_getD wd_set wd_len wd_replicate wd_one wd_fold fz_osl hupd_same aSix.eq_def aEqS.eq_def aEqB_bool aEqB_nsl aEqB_nil

theorem wdZ_8 {z a b c d : Int} (ha : U64 a) (hb : U64 b) (hc : U64 c) (hd : U64 d) (h : modW z = uval a b c d) : wdZ z = wdI a b c d := by
  unfold wdZ wdI
  rw [h]
  unfold uval
  unfold U64 at *
  congr 1
  congr 1
  · congr 1; omega
  congr 1
  · congr 1; omega
  congr 1
  · congr 1; omega
  congr 1
  · congr 1; omega
theorem left255 : FC Try.prog 140 [Wd .u32 [1], .int .i64 255] (Wd .u32 (dg 57896044618658097711785492504343953926634992332820282019728792003956564819968)) := by
  have h := l1Left_fc [1] (Dig.cons (by omega) (by omega) (Dig.nil _)) 7 31 (by omega) (by omega) (by simp)
  have e : (4294967296 : Int) ^ 7 * (val 4294967296 [1] * 2 ^ 31) = 57896044618658097711785492504343953926634992332820282019728792003956564819968 := by simp [val]
  rw [e] at h; exact h
theorem left256 : FC Try.prog 140 [Wd .u32 [1], .int .i64 256] (Wd .u32 (dg 115792089237316195423570985008687907853269984665640564039457584007913129639936)) := by
  have h := l1Left_fc [1] (Dig.cons (by omega) (by omega) (Dig.nil _)) 8 0 (by omega) (by omega) (by simp)
  have e : (4294967296 : Int) ^ 8 * (val 4294967296 [1] * 2 ^ 0) = 115792089237316195423570985008687907853269984665640564039457584007913129639936 := by simp [val]
  rw [e] at h; exact h

set_option maxHeartbeats 2000000 in
theorem l1Wide_fc {k : Nat} {z : Int} (hz : Bg k z) (hk : k ≤ 68719476736) : FC Try.prog 109 [numS z] (.tup [wdT z, .bool (fits z)]) := by
  have lz : (dg z).length ≤ 137438953472 := by have := hz.len32; omega
  refine FC.body Try.func109 rfl (by simp [idfL, idf, idfLL_iff, idf_Wd', idf_numS, cells_numS, numS_fold]) (by simp [idfL, idf, idf_wdT]) 77 rfl fun nx K hK => ?_
  refine AWP.seqk fun K1 hK1 => ?_
  refine AWP.region (AOPS.all (by simp (disch := first | omega | (simp only [List.length_append, List.length_cons, List.length_nil, List.length_set, List.length_replicate, Int.toNat_natCast]; omega)) [szT4, agT4, unT4, zoT4, byT4, szT31, agT31, unT31, zoT31, byT31, szT33, agT33, flT33, zoT33, byT33, szT90, agT90, elT90, unT90, zoT90, byT90, szT92, agT92, flT92, zoT92, byT92, fdT33_0, fdT33_1, fdT33_2, fdT33_3, fdT92_0, fdT92_1, idf_Wd', idf_numS, cells_numS, numS_fold]; rfl) ?_)
  refine hK1 _ ?_
  refine AWP.seqk fun K2 hK2 => ?_
  refine AWP.region (AOPS.all (by simp (disch := first | omega | (simp only [List.length_append, List.length_cons, List.length_nil, List.length_set, List.length_replicate, Int.toNat_natCast]; omega)) [szT4, agT4, unT4, zoT4, byT4, szT90, agT90, elT90, unT90, zoT90, byT90, szT92, agT92, flT92, zoT92, byT92, szT180, agT180, unT180, zoT180, byT180, fdT92_0, fdT92_1, idf_Wd', idf_numS, cells_numS, numS_fold]; rfl) ?_)
  refine hK2 _ ?_
  refine AWP.seqk fun K3 hK3 => ?_
  have J3 : ∀ s : St, (∃ D : List Int, s.env 2 = .ptr (nx + 1) 0 0 ∧ s.env 4 = Wd .u32 D ∧ s.heap (nx + 1) = some (4, [[.int .u64 0, .int .u64 0, .int .u64 0, .int .u64 0]]) ∧ nx + 1 < s.nx ∧ Dig 4294967296 D ∧ D.length ≤ 137438953472 ∧ val 4294967296 D = modW z ∧ fits z = true ∧ s.nt = 77) → K3 s := by
    rintro ⟨e, H, m, nt⟩ ⟨D, h2, h4, hB, hm, dD, lD, vD, hf, rfl⟩
    simp only [] at h2 h4 hB hm
    refine hK3 _ ?_
    refine AWP.seqk fun K4 hK4 => ?_
    refine AWP.region (AOPS.all (by simp (disch := first | omega | (simp only [List.length_append, List.length_cons, List.length_nil, List.length_set, List.length_replicate, Int.toNat_natCast]; omega)) [szT31, agT31, unT31, zoT31, byT31, szT97, agT97, elT97, unT97, zoT97, byT97, if_pos, idf_Wd', idf_numS, cells_numS, numS_fold]; rfl) ?_)
    refine hK4 _ ?_
    refine AWP.seqk fun K5 hK5 => ?_
    refine AWP.seqk fun K6 hK6 => ?_
    refine AWP.region (AOPS.all (by simp (disch := first | omega | (simp only [List.length_append, List.length_cons, List.length_nil, List.length_set, List.length_replicate, Int.toNat_natCast]; omega)) [idf_Wd', idf_numS, cells_numS, numS_fold]; rfl) ?_)
    refine hK6 _ ?_
    refine AWP.block ?_
    refine AWP.loop (fun n s => ∃ i out, n = 8 - i ∧ i ≤ 8 ∧ out.length = 8 ∧ (∀ j, j < 8 → gt out j = if j < i then gt D j else 0) ∧ s.env 2 = .ptr (nx + 1) 0 0 ∧ s.env 4 = Wd .u32 D ∧ s.env 5 = .osl m 0 8 ∧ s.env 6 = .int .i64 (i : Int) ∧ s.heap (nx + 1) = some (4, [[.int .u64 0, .int .u64 0, .int .u64 0, .int .u64 0]]) ∧ s.heap m = some (1, wd .u64 out) ∧ s.nt = 77) (8) (⟨0, List.replicate 8 0, by omega, by omega, rfl, by intro j hj; rw [if_neg (Nat.not_lt_zero j)]; simp only [gt, List.getElem?_replicate]; split <;> rfl, by simp [h2], by simp [h4], by simp, by simp, by simp (disch := omega) [hB], by simp, rfl⟩) ?_
    clear h2 h4 hB
    rintro n ⟨e, H, m3, nt⟩ ⟨i, out, rfl, hi, ho, hg, h2, h4, h5, h6, hB, hC, rfl⟩
    simp only [] at h2 h4 h5 h6 hB hC
    refine AWP.seqk fun K7 hK7 => ?_
    refine AWP.seqk fun K8 hK8 => ?_
    by_cases hi8 : i < 8
    · have c8 : decide ((i : Int) < 8) = true := by simp; omega
      refine AWP.region (AOPS.all (by simp (disch := first | omega | (simp only [List.length_append, List.length_cons, List.length_nil, List.length_set, List.length_replicate, Int.toNat_natCast]; omega)) [szT3, agT3, unT3, zoT3, byT3, szT90, agT90, elT90, unT90, zoT90, byT90, szT180, agT180, unT180, zoT180, byT180, len_Wd (P := Try.prog) #[90] rfl elT90, idf_Wd', idf_numS, cells_numS, numS_fold, h4, h6, c8]; rfl) ?_)
      refine hK8 _ ?_
      refine cond_ok _ (by simp (disch := first | omega | (simp only [List.length_append, List.length_cons, List.length_nil, List.length_set, List.length_replicate, Int.toNat_natCast]; omega)); rfl) (fun h33 => ?_) (fun h33 => ?_)
      · try simp only [decide_eq_true_eq, decide_eq_false_iff_not] at h33
        have hl : i < D.length := by omega
        have hgD := dD.gt (by omega) i
        refine AWP.skip ?_
        refine hK7 _ ?_
        refine AWP.seqk fun K9 hK9 => ?_
        refine AWP.block ?_
        refine AWP.region (AOPS.all (by simp (disch := first | omega | (simp only [List.length_append, List.length_cons, List.length_nil, List.length_set, List.length_replicate, Int.toNat_natCast]; omega)) [szT31, agT31, unT31, zoT31, byT31, szT90, agT90, elT90, unT90, zoT90, byT90, szT97, agT97, elT97, unT97, zoT97, byT97, szT180, agT180, unT180, zoT180, byT180, idx_WdD (P := Try.prog) elT90 szT180, idx_WdD (P := Try.prog) elT97 szT31, if_pos, idf_Wd', idf_numS, cells_numS, numS_fold, h4, h5, h6, hC, ho, ld_ip agT180, ld_ip agT31]; rfl) ?_)
        refine hK9 _ ?_
        refine AWP.region (AOPS.all (by simp (disch := first | omega | (simp only [List.length_append, List.length_cons, List.length_nil, List.length_set, List.length_replicate, Int.toNat_natCast]; omega)) [szT3, agT3, unT3, zoT3, byT3, idf_Wd', idf_numS, cells_numS, numS_fold, h6]; rfl) ?_)
        refine ⟨8 - (i + 1), by omega, i + 1, out.set i (gt D i), rfl, by omega, by simp [ho], ?_, by simp [h2], by simp [h4], by simp [h5], by simp (disch := omega) [h6], by simp (disch := omega) [hB], by simp, rfl⟩
        intro j hj
        by_cases hji : j = i
        · subst hji; rw [gt_set (by omega)]; simp
        · rw [gt_set_ne (Ne.symm hji), hg _ hj]
          by_cases hlt : j < i
          · rw [if_pos hlt, if_pos (by omega)]
          · rw [if_neg hlt, if_neg (by omega)]
      · try simp only [decide_eq_true_eq, decide_eq_false_iff_not] at h33
        have hall : ∀ j, j < 8 → gt out j = gt D j := fun j hj => by
          rw [hg j hj]
          split
          · rfl
          · rw [gt_ge (by omega)]
        refine AWP.exit ?_
        refine hK5 _ ?_
        refine AWP.seqk fun K10 hK10 => ?_
        have g0 := dD.gt (by omega) 0
        have g1 := dD.gt (by omega) 1
        have g2 := dD.gt (by omega) 2
        have g3 := dD.gt (by omega) 3
        have g4 := dD.gt (by omega) 4
        have g5 := dD.gt (by omega) 5
        have g6 := dD.gt (by omega) 6
        have g7 := dD.gt (by omega) 7
        refine AWP.drawF 33 Try.checked.mixed (by kernel_rfl) (by simp (disch := first | omega | (simp only [List.length_append, List.length_cons, List.length_nil, List.length_set, List.length_replicate, Int.toNat_natCast]; omega)) [runDf.eq_def, runF1, runF2, stepF.eq_def, updo.eq_def, hupo.eq_def, opSto1.eq_def, szT31, agT31, unT31, zoT31, byT31, szT33, agT33, flT33, zoT33, byT33, szT97, agT97, elT97, unT97, zoT97, byT97, fdT33_0, fdT33_1, fdT33_2, fdT33_3, idx_WdD (P := Try.prog) elT97 szT31, if_pos, idf_Wd', idf_numS, cells_numS, numS_fold, h2, h5, hB, hC, ho, hall 0 (by omega), hall 1 (by omega), hall 2 (by omega), hall 3 (by omega), hall 4 (by omega), hall 5 (by omega), hall 6 (by omega), hall 7 (by omega), IntKind.bits, or_join2 g6.1 g6.2 g7.1 g7.2, or_join2 g4.1 g4.2 g5.1 g5.2, or_join2 g2.1 g2.2 g3.1 g3.2, or_join2 g0.1 g0.2 g1.1 g1.2, ld_ip agT31]; rfl) ?_
        refine hK10 _ ?_
        refine AWP.ret ?_
        exact hK _ _ _ _ trivial ((Fin.mk (by simp (disch := omega) [aRes, aResL, aRes1, h2, szT33, agT33, idf_Wd', idf_numS, cells_numS, numS_fold]; rfl)).cast (by
          have h8 := val_8 dD (by rw [vD]; unfold modW; omega)
          rw [vD] at h8
          simp only [wdT, hf, if_true]
          rw [wdZ_8 ⟨by omega, by omega⟩ ⟨by omega, by omega⟩ ⟨by omega, by omega⟩ ⟨by omega, by omega⟩ h8]; simp [wdI]))
    · have c8 : decide ((i : Int) < 8) = false := by simp; omega
      refine AWP.region (AOPS.all (by simp (disch := first | omega | (simp only [List.length_append, List.length_cons, List.length_nil, List.length_set, List.length_replicate, Int.toNat_natCast]; omega)) [szT3, agT3, unT3, zoT3, byT3, szT90, agT90, elT90, unT90, zoT90, byT90, szT180, agT180, unT180, zoT180, byT180, len_Wd (P := Try.prog) #[90] rfl elT90, idf_Wd', idf_numS, cells_numS, numS_fold, h4, h6, c8]; rfl) ?_)
      refine hK8 _ ?_
      refine cond_ok _ (by simp (disch := first | omega | (simp only [List.length_append, List.length_cons, List.length_nil, List.length_set, List.length_replicate, Int.toNat_natCast]; omega)); rfl) (fun h33 => ?_) (fun h33 => ?_)
      · simp at h33
      · try simp only [decide_eq_true_eq, decide_eq_false_iff_not] at h33
        have hall : ∀ j, j < 8 → gt out j = gt D j := fun j hj => by
          rw [hg j hj, if_pos (by omega)]
        refine AWP.exit ?_
        refine hK5 _ ?_
        refine AWP.seqk fun K11 hK11 => ?_
        have g0 := dD.gt (by omega) 0
        have g1 := dD.gt (by omega) 1
        have g2 := dD.gt (by omega) 2
        have g3 := dD.gt (by omega) 3
        have g4 := dD.gt (by omega) 4
        have g5 := dD.gt (by omega) 5
        have g6 := dD.gt (by omega) 6
        have g7 := dD.gt (by omega) 7
        refine AWP.drawF 33 Try.checked.mixed (by kernel_rfl) (by simp (disch := first | omega | (simp only [List.length_append, List.length_cons, List.length_nil, List.length_set, List.length_replicate, Int.toNat_natCast]; omega)) [runDf.eq_def, runF1, runF2, stepF.eq_def, updo.eq_def, hupo.eq_def, opSto1.eq_def, szT31, agT31, unT31, zoT31, byT31, szT33, agT33, flT33, zoT33, byT33, szT97, agT97, elT97, unT97, zoT97, byT97, fdT33_0, fdT33_1, fdT33_2, fdT33_3, idx_WdD (P := Try.prog) elT97 szT31, if_pos, idf_Wd', idf_numS, cells_numS, numS_fold, h2, h5, hB, hC, ho, hall 0 (by omega), hall 1 (by omega), hall 2 (by omega), hall 3 (by omega), hall 4 (by omega), hall 5 (by omega), hall 6 (by omega), hall 7 (by omega), IntKind.bits, or_join2 g6.1 g6.2 g7.1 g7.2, or_join2 g4.1 g4.2 g5.1 g5.2, or_join2 g2.1 g2.2 g3.1 g3.2, or_join2 g0.1 g0.2 g1.1 g1.2, ld_ip agT31]; rfl) ?_
        refine hK11 _ ?_
        refine AWP.ret ?_
        exact hK _ _ _ _ trivial ((Fin.mk (by simp (disch := omega) [aRes, aResL, aRes1, h2, szT33, agT33, idf_Wd', idf_numS, cells_numS, numS_fold]; rfl)).cast (by
          have h8 := val_8 dD (by rw [vD]; unfold modW; omega)
          rw [vD] at h8
          simp only [wdT, hf, if_true]
          rw [wdZ_8 ⟨by omega, by omega⟩ ⟨by omega, by omega⟩ ⟨by omega, by omega⟩ ⟨by omega, by omega⟩ h8]; simp [wdI]))
  refine AWP.seqk fun K12 hK12 => ?_
  refine AWP.region (AOPS.all (by simp (disch := first | omega | (simp only [List.length_append, List.length_cons, List.length_nil, List.length_set, List.length_replicate, Int.toNat_natCast]; omega)) [szT4, agT4, unT4, zoT4, byT4, szT90, agT90, elT90, unT90, zoT90, byT90, szT92, agT92, flT92, zoT92, byT92, fdT92_0, fdT92_1, idf_Wd', idf_numS, cells_numS, numS_fold]; rfl) ?_)
  refine hK12 _ ?_
  refine cond_ok _ (by simp (disch := first | omega | (simp only [List.length_append, List.length_cons, List.length_nil, List.length_set, List.length_replicate, Int.toNat_natCast]; omega)); rfl) (fun h10 => ?_) (fun h10 => ?_)
  · try simp only [decide_eq_true_eq, decide_eq_false_iff_not] at h10
    have hzn : z < 0 := by simpa using h10
    refine AWP.seqk fun K13 hK13 => ?_
    refine AWP.seqk fun K14 hK14 => ?_
    refine AWP.region ?_
    refine AOPS.runk 2 (by simp (disch := first | omega | (simp only [List.length_append, List.length_cons, List.length_nil, List.length_set, List.length_replicate, Int.toNat_natCast]; omega)) [List.take_succ_cons, List.take_zero, szT2, agT2, unT2, zoT2, byT2, szT90, agT90, elT90, unT90, zoT90, byT90, szT180, agT180, unT180, zoT180, byT180, idf_Wd', idf_numS, cells_numS, numS_fold]; rfl) ?_
    simp only [List.drop_succ_cons, List.drop_zero]
    refine AOPS.frz1 12 (nx + 1 + 1) 1 (wd .u32 [1]) (Wd .u32 [1]) (by simp) (by simp; first | exact fz_wd rfl | exact isl_take_wd (by simp)) ?_
    refine AOPS.fcall (left255) rfl rfl rfl hb140 (by simp (disch := first | omega | (simp only [List.length_append, List.length_cons, List.length_nil, List.length_set, List.length_replicate, Int.toNat_natCast]; omega)) [idf_Wd', idf_Wd', idf_numS, cells_numS, numS_fold]) (by simp (disch := first | omega | (simp only [List.length_append, List.length_cons, List.length_nil, List.length_set, List.length_replicate, Int.toNat_natCast]; omega))) (by simp) ?_
    simp only [puts_some, updo]
    refine AOPS.fcall (l1CmpAbs_fc (dg z) (dg 57896044618658097711785492504343953926634992332820282019728792003956564819968) (by omega) (by exact Nat.le_trans row7_top (by omega))) rfl rfl rfl hb144 (by simp (disch := first | omega | (simp only [List.length_append, List.length_cons, List.length_nil, List.length_set, List.length_replicate, Int.toNat_natCast]; omega)) [idf_Wd', idf_Wd', idf_numS, cells_numS, numS_fold]) (by simp (disch := first | omega | (simp only [List.length_append, List.length_cons, List.length_nil, List.length_set, List.length_replicate, Int.toNat_natCast]; omega))) (by simp) ?_
    simp only [puts_some, updo]
    refine AOPS.all (by simp (disch := first | omega | (simp only [List.length_append, List.length_cons, List.length_nil, List.length_set, List.length_replicate, Int.toNat_natCast]; omega)) [szT2, agT2, unT2, zoT2, byT2, szT90, agT90, elT90, unT90, zoT90, byT90, szT180, agT180, unT180, zoT180, byT180, idf_Wd', idf_numS, cells_numS, numS_fold]; rfl) ?_
    refine hK14 _ ?_
    refine cond_ok _ (by simp (disch := first | omega | (simp only [List.length_append, List.length_cons, List.length_nil, List.length_set, List.length_replicate, Int.toNat_natCast]; omega)); rfl) (fun h15 => ?_) (fun h15 => ?_)
    · try simp only [decide_eq_true_eq, decide_eq_false_iff_not] at h15
      have hf : fits z = false := by
        have := cmpS_dg z 57896044618658097711785492504343953926634992332820282019728792003956564819968
        unfold fits; simp; omega
      refine AWP.seqk fun K15 hK15 => ?_
      refine AWP.region (AOPS.all (by simp (disch := first | omega | (simp only [List.length_append, List.length_cons, List.length_nil, List.length_set, List.length_replicate, Int.toNat_natCast]; omega)) [szT31, agT31, unT31, zoT31, byT31, szT33, agT33, flT33, zoT33, byT33, fdT33_0, fdT33_1, fdT33_2, fdT33_3, idf_Wd', idf_numS, cells_numS, numS_fold]; rfl) ?_)
      refine hK15 _ ?_
      refine AWP.ret ?_
      exact hK _ _ _ _ trivial ((Fin.mk (by simp (disch := omega) [aRes, aResL, aRes1, szT33, agT33, idf_Wd', idf_numS, cells_numS, numS_fold]; rfl)).cast (by simp [wdT, hf, wdI]))
    · try simp only [decide_eq_true_eq, decide_eq_false_iff_not] at h15
      have hle : z.natAbs ≤ 57896044618658097711785492504343953926634992332820282019728792003956564819968 := by
        have := cmpS_dg z 57896044618658097711785492504343953926634992332820282019728792003956564819968
        omega
      have hsu := subS_dg (a := 115792089237316195423570985008687907853269984665640564039457584007913129639936) (b := z) (by omega)
      refine AWP.skip ?_
      refine hK13 _ ?_
      refine AWP.region ?_
      refine AOPS.runk 1 (by simp (disch := first | omega | (simp only [List.length_append, List.length_cons, List.length_nil, List.length_set, List.length_replicate, Int.toNat_natCast]; omega)) [List.take_succ_cons, List.take_zero, szT90, agT90, elT90, unT90, zoT90, byT90, szT180, agT180, unT180, zoT180, byT180, idf_Wd', idf_numS, cells_numS, numS_fold]; rfl) ?_
      simp only [List.drop_succ_cons, List.drop_zero]
      refine AOPS.frz1 17 (nx + 1 + 1 + 1) 1 (wd .u32 [1]) (Wd .u32 [1]) (by simp) (by simp; first | exact fz_wd rfl | exact isl_take_wd (by simp)) ?_
      refine AOPS.fcall (left256) rfl rfl rfl hb140 (by simp (disch := first | omega | (simp only [List.length_append, List.length_cons, List.length_nil, List.length_set, List.length_replicate, Int.toNat_natCast]; omega)) [idf_Wd', idf_Wd', idf_numS, cells_numS, numS_fold]) (by simp (disch := first | omega | (simp only [List.length_append, List.length_cons, List.length_nil, List.length_set, List.length_replicate, Int.toNat_natCast]; omega))) (by simp) ?_
      simp only [puts_some, updo]
      refine AOPS.runk 1 (by simp (disch := first | omega | (simp only [List.length_append, List.length_cons, List.length_nil, List.length_set, List.length_replicate, Int.toNat_natCast]; omega)) [List.take_succ_cons, List.take_zero, szT90, agT90, elT90, unT90, zoT90, byT90, szT180, agT180, unT180, zoT180, byT180, idf_Wd', idf_numS, cells_numS, numS_fold]; rfl) ?_
      simp only [List.drop_succ_cons, List.drop_zero]
      refine AOPS.fcall (l1SubAbs_fc (dg 115792089237316195423570985008687907853269984665640564039457584007913129639936) (dg z) (by exact Nat.le_trans row8_top (by omega)) (dg_dig _) (dg_dig _)) rfl rfl rfl hb145 (by simp (disch := first | omega | (simp only [List.length_append, List.length_cons, List.length_nil, List.length_set, List.length_replicate, Int.toNat_natCast]; omega)) [idf_Wd', idf_Wd', idf_numS, cells_numS, numS_fold]) (by simp (disch := first | omega | (simp only [List.length_append, List.length_cons, List.length_nil, List.length_set, List.length_replicate, Int.toNat_natCast]; omega))) (by simp) ?_
      simp only [puts_some, updo]
      refine AOPS.all (by simp (disch := first | omega | (simp only [List.length_append, List.length_cons, List.length_nil, List.length_set, List.length_replicate, Int.toNat_natCast]; omega)) [szT90, agT90, elT90, unT90, zoT90, byT90, szT180, agT180, unT180, zoT180, byT180, idf_Wd', idf_numS, cells_numS, numS_fold]; rfl) ?_
      refine J3 _ ?_
      exact ⟨_, by simp, by simp; rfl, by simp, by simp, by exact hsu.1, by rw [hsu.2.1]; exact Nat.le_trans row8_top (by omega), by rw [hsu.2.2]; unfold modW; omega, by unfold fits; simp; omega, rfl⟩
  · try simp only [decide_eq_true_eq, decide_eq_false_iff_not] at h10
    have hzn : ¬ z < 0 := by simpa using h10
    refine AWP.seqk fun K16 hK16 => ?_
    refine AWP.region ?_
    refine AOPS.runk 1 (by simp (disch := first | omega | (simp only [List.length_append, List.length_cons, List.length_nil, List.length_set, List.length_replicate, Int.toNat_natCast]; omega)) [List.take_succ_cons, List.take_zero, szT2, agT2, unT2, zoT2, byT2, idf_Wd', idf_numS, cells_numS, numS_fold]; rfl) ?_
    simp only [List.drop_succ_cons, List.drop_zero]
    refine AOPS.fcall (l1Bits_fc hz (by omega)) rfl rfl rfl hb136 (by simp (disch := first | omega | (simp only [List.length_append, List.length_cons, List.length_nil, List.length_set, List.length_replicate, Int.toNat_natCast]; omega)) [idf_Wd', idf_Wd', idf_numS, cells_numS, numS_fold]) (by simp (disch := first | omega | (simp only [List.length_append, List.length_cons, List.length_nil, List.length_set, List.length_replicate, Int.toNat_natCast]; omega))) (by simp) ?_
    simp only [puts_some, updo]
    refine AOPS.all (by simp (disch := first | omega | (simp only [List.length_append, List.length_cons, List.length_nil, List.length_set, List.length_replicate, Int.toNat_natCast]; omega)) [szT2, agT2, unT2, zoT2, byT2, idf_Wd', idf_numS, cells_numS, numS_fold]; rfl) ?_
    refine hK16 _ ?_
    refine cond_ok _ (by simp (disch := first | omega | (simp only [List.length_append, List.length_cons, List.length_nil, List.length_set, List.length_replicate, Int.toNat_natCast]; omega)); rfl) (fun h23 => ?_) (fun h23 => ?_)
    · try simp only [decide_eq_true_eq, decide_eq_false_iff_not] at h23
      have hf : fits z = false := by
        cases h : fits z with
        | false => rfl
        | true =>
          have := fits_iff.mpr h
          rw [if_neg hzn] at this; omega
      refine AWP.seqk fun K17 hK17 => ?_
      refine AWP.region (AOPS.all (by simp (disch := first | omega | (simp only [List.length_append, List.length_cons, List.length_nil, List.length_set, List.length_replicate, Int.toNat_natCast]; omega)) [szT31, agT31, unT31, zoT31, byT31, szT33, agT33, flT33, zoT33, byT33, fdT33_0, fdT33_1, fdT33_2, fdT33_3, idf_Wd', idf_numS, cells_numS, numS_fold]; rfl) ?_)
      refine hK17 _ ?_
      refine AWP.ret ?_
      exact hK _ _ _ _ trivial ((Fin.mk (by simp (disch := omega) [aRes, aResL, aRes1, szT33, agT33, idf_Wd', idf_numS, cells_numS, numS_fold]; rfl)).cast (by simp [wdT, hf, wdI]))
    · try simp only [decide_eq_true_eq, decide_eq_false_iff_not] at h23
      have hf : fits z = true := fits_iff.mp (by rw [if_neg hzn]; omega)
      refine AWP.skip ?_
      refine J3 _ ?_
      exact ⟨dg z, by simp, by simp, by simp, by simp, dg_dig z, lz, by rw [dg_val]; unfold modW; have h := hf; unfold fits at h; simp at h; omega, hf, rfl⟩

end Go.Proofs.Ytdcggmbnjonemaa

/- Walks: the reference's divisions. -/
namespace Go.Proofs.Ytdcggmbnjonemaa
open Go Go.RowKit
set_option linter.unusedSimpArgs false
set_option linter.unusedVariables false
set_option maxRecDepth 100000
attribute [local simp] List.getElem?_cons_zero List.getElem?_cons_succ List.getElem?_toArray runOps stepOp.eq_def agd.eq_def dstOk.eq_def opVal.eq_def opNew.eq_def opSto.eq_def ev.eq_def cv.eq_def puts_some puts_none upd_ap lst.eq_def aBin.eq_def aUn.eq_def aBi_str aBi_isl aBi_osl aBi_nsl aBi_max aBi_min aBi_max3 aConv.eq_def aLd.eq_def aLoad.eq_def aField.eq_def aFld.eq_def aIdx_isl aIdx_osl aSlc_isl aSlc_osl aSlc_str aSlc_nsl bnd.eq_def evs_nil evs_cons aBuild.eq_def aFill splice.eq_def cells_agg cells_int cells_bool cells_str cells_nil cells_nsl cells_isl cells_osl cells_ptr cells_ip cells_fn cells_Wd one_int one_bool one_str one_nil one_nsl one_isl one_osl one_ptr one_ip one_fn one_Wd aSets hupd_eq hupd_ne wrap_i64s wrap_u64s wrap_u32s wrap_u8s wd_getD wd_set wd_len wd_replicate wd_one wd_fold fz_osl hupd_same aSix.eq_def aEqS.eq_def aEqB_bool aEqB_nsl aEqB_nil

theorem Bg.mod {j n : Nat} (h : Bg j (n : Int)) (x : Nat) (hn : n ≠ 0) : Bg j ((x % n : Nat) : Int) := by
  unfold Bg at *
  rw [Int.natAbs_natCast] at *
  have := Nat.mod_lt x (Nat.pos_of_ne_zero hn)
  omega
theorem sbound {a d N k j : Nat} (hd : d ≠ 0) (hna : bitLen a ≤ 64 * j) (hN : bitLen a = bitLen d + N) (hk : k ≤ N) : Bg j ((d * 2 ^ k : Nat) : Int) := by
  unfold Bg
  simp only [Int.natAbs_natCast]
  have h1 : d < 2 ^ bitLen d := bitLen_le.1 (Nat.le_refl _)
  have h2 : d * 2 ^ k < 2 ^ bitLen d * 2 ^ k := Nat.mul_lt_mul_of_pos_right h1 (Nat.two_pow_pos k)
  rw [← Nat.pow_add] at h2
  have h3 : (2 : Nat) ^ (bitLen d + k) ≤ 2 ^ (64 * j) := Nat.pow_le_pow_right (by omega) (by omega)
  have : (2 : Nat) ^ (64 * j) = 18446744073709551616 ^ j := by rw [Nat.pow_mul]
  omega
theorem l1LeftI (d k : Nat) (hk : k ≤ 34359738367) (hl : (dg (d : Int)).length ≤ 68719476736) : FC Try.prog 140 [Wd .u32 (dg (d : Int)), .int .i64 (k : Int)] (Wd .u32 (dg ((d * 2 ^ k : Nat) : Int))) := by
  have h := l1Left_fc (dg (d : Int)) (dg_dig _) (k / 32) (k % 32) (by omega) (by omega) hl
  rw [show 32 * (k / 32) + k % 32 = k from by omega, dg_val, Int.natAbs_natCast, shl_val] at h
  rw [Int.natCast_mul, pow2_cast]
  exact h

set_option maxHeartbeats 2000000 in
theorem l1DivAbs_fc {j : Nat} (a d : Nat) (hd : d ≠ 0) (ha : Bg j a) (hb : Bg j d) (hj : j ≤ 16777216) : FC Try.prog 137 [Wd .u32 (dg (a : Int)), Wd .u32 (dg (d : Int))] (.tup [Wd .u32 (dg ((a / d : Nat) : Int)), Wd .u32 (dg ((a % d : Nat) : Int))]) := by
  have la := ha.len32
  have lb := hb.len32
  have hna : bitLen a ≤ 64 * j := by
    rw [bitLen_le]; unfold Bg at ha
    have : (2 : Nat) ^ (64 * j) = 18446744073709551616 ^ j := by rw [Nat.pow_mul]
    rw [this]; simpa using ha
  have hnb : bitLen d ≤ 64 * j := by
    rw [bitLen_le]; unfold Bg at hb
    have : (2 : Nat) ^ (64 * j) = 18446744073709551616 ^ j := by rw [Nat.pow_mul]
    rw [this]; simpa using hb
  refine FC.body Try.func137 rfl (by simp [idfL, idf, idfLL_iff, idf_Wd', idf_numS, cells_numS, numS_fold]) (by simp [idfL, idf, idfLL_iff, idf_Wd', idf_numS, cells_numS, numS_fold]) 59 rfl fun nx K hK => ?_
  refine AWP.seqk fun K1 hK1 => ?_
  refine AWP.region (AOPS.all (by simp (disch := first | omega | (simp only [List.length_append, List.length_cons, List.length_nil, List.length_set, List.length_replicate, Int.toNat_natCast]; omega)) [idf_Wd', idf_numS, cells_numS, numS_fold]; rfl) ?_)
  refine hK1 _ ?_
  refine AWP.seqk fun K2 hK2 => ?_
  refine AWP.region ?_
  refine AOPS.runk 1 (by simp (disch := first | omega | (simp only [List.length_append, List.length_cons, List.length_nil, List.length_set, List.length_replicate, Int.toNat_natCast]; omega)) [List.take_succ_cons, List.take_zero, szT2, agT2, unT2, zoT2, byT2, idf_Wd', idf_numS, cells_numS, numS_fold]; rfl) ?_
  simp only [List.drop_succ_cons, List.drop_zero]
  refine AOPS.fcall (l1Bits_fc ha (by omega)) rfl rfl rfl hb136 (by simp (disch := first | omega | (simp only [List.length_append, List.length_cons, List.length_nil, List.length_set, List.length_replicate, Int.toNat_natCast]; omega)) [idf_Wd', idf_Wd', idf_numS, cells_numS, numS_fold]) (by simp (disch := first | omega | (simp only [List.length_append, List.length_cons, List.length_nil, List.length_set, List.length_replicate, Int.toNat_natCast]; omega))) (by simp) ?_
  simp only [puts_some, updo]
  refine AOPS.runk 1 (by simp (disch := first | omega | (simp only [List.length_append, List.length_cons, List.length_nil, List.length_set, List.length_replicate, Int.toNat_natCast]; omega)) [List.take_succ_cons, List.take_zero, szT2, agT2, unT2, zoT2, byT2, idf_Wd', idf_numS, cells_numS, numS_fold]; rfl) ?_
  simp only [List.drop_succ_cons, List.drop_zero]
  refine AOPS.fcall (l1Bits_fc hb (by omega)) rfl rfl rfl hb136 (by simp (disch := first | omega | (simp only [List.length_append, List.length_cons, List.length_nil, List.length_set, List.length_replicate, Int.toNat_natCast]; omega)) [idf_Wd', idf_Wd', idf_numS, cells_numS, numS_fold]) (by simp (disch := first | omega | (simp only [List.length_append, List.length_cons, List.length_nil, List.length_set, List.length_replicate, Int.toNat_natCast]; omega))) (by simp) ?_
  simp only [puts_some, updo]
  refine AOPS.all (by simp (disch := first | omega | (simp only [List.length_append, List.length_cons, List.length_nil, List.length_set, List.length_replicate, Int.toNat_natCast]; omega)) [szT2, agT2, unT2, zoT2, byT2, idf_Wd', idf_numS, cells_numS, numS_fold]; rfl) ?_
  refine hK2 _ ?_
  refine AWP.seqk fun K3 hK3 => ?_
  refine AWP.seqk fun K4 hK4 => ?_
  refine AWP.region (AOPS.all (by simp (disch := first | omega | (simp only [List.length_append, List.length_cons, List.length_nil, List.length_set, List.length_replicate, Int.toNat_natCast]; omega)) [szT2, agT2, unT2, zoT2, byT2, idf_Wd', idf_numS, cells_numS, numS_fold]; rfl) ?_)
  refine hK4 _ ?_
  refine cond_ok _ (by simp (disch := first | omega | (simp only [List.length_append, List.length_cons, List.length_nil, List.length_set, List.length_replicate, Int.toNat_natCast]; omega)); rfl) (fun h17 => ?_) (fun h17 => ?_)
  · try simp only [decide_eq_true_eq, decide_eq_false_iff_not] at h17
    have hlt : a < d := bitLen_lt (by omega)
    refine AWP.seqk fun K5 hK5 => ?_
    refine AWP.region (AOPS.all (by simp (disch := first | omega | (simp only [List.length_append, List.length_cons, List.length_nil, List.length_set, List.length_replicate, Int.toNat_natCast]; omega)) [idf_Wd', idf_numS, cells_numS, numS_fold]; rfl) ?_)
    refine hK5 _ ?_
    refine AWP.ret ?_
    exact hK _ _ _ _ trivial (((Fin.mk (r := .tup [.nsl, Wd .u32 (dg (a : Int))]) (by simp [aRes, aResL, aRes1, idf_Wd', idf_numS, cells_numS, numS_fold])).weak (r' := .tup [Wd .u32 [], Wd .u32 (dg (a : Int))]) (fun _ _ _ _ h => by
      obtain ⟨vs, rfl, u, r, e, h1, h2⟩ := h
      exact ⟨vs, rfl, u, r, e, nsl_Wd .u32 h1, h2⟩)).cast (by rw [Nat.div_eq_of_lt hlt, Nat.mod_eq_of_lt hlt, show ((0 : Nat) : Int) = 0 from rfl, dg_zero]))
  · try simp only [decide_eq_true_eq, decide_eq_false_iff_not] at h17
    obtain ⟨N, hN⟩ : ∃ N, bitLen a = bitLen d + N := ⟨bitLen a - bitLen d, by omega⟩
    have hN2 : N < bitLen a := by have := bitLen_ne hd; omega
    have eN : (bitLen a : Int) - (bitLen d : Int) = N := by omega
    have hst := DvS.start hd hN
    have eq : (N : Int).tdiv 32 = ((N / 32 : Nat) : Int) := by rw [Int.tdiv_eq_ediv_of_nonneg (by omega)]; omega
    have etn : ((N : Int) / 32 + 1).toNat = N / 32 + 1 := by omega
    refine AWP.skip ?_
    refine hK3 _ ?_
    refine AWP.seqk fun K6 hK6 => ?_
    refine AWP.region (AOPS.all (by simp (disch := first | omega | (simp only [List.length_append, List.length_cons, List.length_nil, List.length_set, List.length_replicate, Int.toNat_natCast]; omega)) [szT2, agT2, unT2, zoT2, byT2, szT90, agT90, elT90, unT90, zoT90, byT90, szT180, agT180, unT180, zoT180, byT180, if_pos, idf_Wd', idf_numS, cells_numS, numS_fold, eN, eq]; rfl) ?_)
    refine hK6 _ ?_
    refine AWP.seqk fun K7 hK7 => ?_
    refine AWP.region (AOPS.all (by simp (disch := first | omega | (simp only [List.length_append, List.length_cons, List.length_nil, List.length_set, List.length_replicate, Int.toNat_natCast]; omega)) [idf_Wd', idf_numS, cells_numS, numS_fold, eN]; rfl) ?_)
    refine hK7 _ ?_
    refine AWP.seqk fun K8 hK8 => ?_
    refine AWP.seqk fun K9 hK9 => ?_
    refine AWP.region (AOPS.all (by simp (disch := first | omega | (simp only [List.length_append, List.length_cons, List.length_nil, List.length_set, List.length_replicate, Int.toNat_natCast]; omega)) [idf_Wd', idf_numS, cells_numS, numS_fold, eN]; rfl) ?_)
    refine hK9 _ ?_
    refine AWP.block ?_
    refine AWP.loop (fun n s => ∃ (i id : Nat) (q : List Int) (R : Int), n = i ∧ i ≤ N + 1 ∧ DvS a d q R i ∧ q.length = N / 32 + 1 ∧ R ≤ a ∧ s.env 1 = Wd .u32 (dg (d : Int)) ∧ s.env 7 = .osl id 0 (N / 32 + 1) ∧ s.env 8 = Wd .u32 (dg R) ∧ s.env 9 = .int .i64 ((i : Int) - 1) ∧ s.heap id = some (1, wd .u32 q) ∧ id < s.nx ∧ s.nt = 59) (N + 1) (⟨N + 1, nx, _, _, rfl, by omega, hst, by simp, by omega, by simp, by simp [etn], by simp, by simp, by simp [etn], by simp, rfl⟩) ?_
    rintro n ⟨e, H, m, nt⟩ ⟨i, id, q, R, rfl, hi, hS, hq, hR, h1, h7, h8, h9, hH, hid, rfl⟩
    simp only [] at h1 h7 h8 h9 hH hid
    have hR0 := hS.nn
    have bR : Bg j R := by unfold Bg at *; have := Int.natAbs_of_nonneg hR0; simp at ha; omega
    have lR := bR.len32
    refine AWP.seqk fun K10 hK10 => ?_
    refine AWP.seqk fun K11 hK11 => ?_
    refine AWP.region (AOPS.all (by simp (disch := first | omega | (simp only [List.length_append, List.length_cons, List.length_nil, List.length_set, List.length_replicate, Int.toNat_natCast]; omega)) [szT2, agT2, unT2, zoT2, byT2, idf_Wd', idf_numS, cells_numS, numS_fold, h9]; rfl) ?_)
    refine hK11 _ ?_
    refine cond_ok _ (by simp (disch := first | omega | (simp only [List.length_append, List.length_cons, List.length_nil, List.length_set, List.length_replicate, Int.toNat_natCast]; omega)); rfl) (fun h26 => ?_) (fun h26 => ?_)
    · try simp only [decide_eq_true_eq, decide_eq_false_iff_not] at h26
      obtain ⟨k, rfl⟩ : ∃ k, n = k + 1 := ⟨n - 1, by omega⟩
      have e9 : ((k + 1 : Nat) : Int) - 1 = k := by omega
      rw [e9] at h9
      have eqk : (k : Int).tdiv 32 = ((k / 32 : Nat) : Int) := by rw [Int.tdiv_eq_ediv_of_nonneg (by omega)]; omega
      have eqm : (k : Int).tmod 32 = ((k % 32 : Nat) : Int) := by rw [Int.tmod_eq_emod_of_nonneg (by omega)]; omega
      have tq : ((k : Int) / 32).toNat = k / 32 := by omega
      have tm : ((k : Int) % 32).toNat = k % 32 := by omega
      have wp : IntKind.u32.wrap (2 ^ (k % 32)) = 2 ^ (k % 32) := by have := pow2_pos (k % 32); exact wrap_u32s (by omega) hS.or.2.2
      have hs := sbound hd hna hN (show k ≤ N by omega)
      have bs : Bg j ((d * 2 ^ k : Nat) : Int) := hs
      have ls := bs.len32
      have es : ((d * 2 ^ k : Nat) : Int) = (d : Int) * 2 ^ k := by rw [Int.natCast_mul, pow2_cast]
      refine AWP.skip ?_
      refine hK10 _ ?_
      refine AWP.seqk fun K12 hK12 => ?_
      refine AWP.block ?_
      refine AWP.seqk fun K13 hK13 => ?_
      refine AWP.region ?_
      refine AOPS.runk 2 (by simp (disch := first | omega | (simp only [List.length_append, List.length_cons, List.length_nil, List.length_set, List.length_replicate, Int.toNat_natCast]; omega)) [List.take_succ_cons, List.take_zero, idf_Wd', idf_numS, cells_numS, numS_fold, h1, h9]; rfl) ?_
      simp only [List.drop_succ_cons, List.drop_zero]
      refine AOPS.fcall (l1LeftI d k (by omega) (by omega)) rfl rfl rfl hb140 (by simp (disch := first | omega | (simp only [List.length_append, List.length_cons, List.length_nil, List.length_set, List.length_replicate, Int.toNat_natCast]; omega)) [idf_Wd', h1, h9, idf_Wd', idf_numS, cells_numS, numS_fold]) (by simp (disch := first | omega | (simp only [List.length_append, List.length_cons, List.length_nil, List.length_set, List.length_replicate, Int.toNat_natCast]; omega)) [h1, h9]) (by simp) ?_
      simp only [puts_some, updo]
      refine AOPS.all (by simp (disch := first | omega | (simp only [List.length_append, List.length_cons, List.length_nil, List.length_set, List.length_replicate, Int.toNat_natCast]; omega)) [idf_Wd', idf_numS, cells_numS, numS_fold, h1, h9]; rfl) ?_
      refine hK13 _ ?_
      refine AWP.seqk fun K14 hK14 => ?_
      refine AWP.region ?_
      refine AOPS.runk 2 (by simp (disch := first | omega | (simp only [List.length_append, List.length_cons, List.length_nil, List.length_set, List.length_replicate, Int.toNat_natCast]; omega)) [List.take_succ_cons, List.take_zero, szT2, agT2, unT2, zoT2, byT2, idf_Wd', idf_numS, cells_numS, numS_fold, h8]; rfl) ?_
      simp only [List.drop_succ_cons, List.drop_zero]
      refine AOPS.fcall (l1CmpAbs_fc (dg R) (dg ((d * 2 ^ k : Nat) : Int)) (by omega) (by omega)) rfl rfl rfl hb144 (by simp (disch := first | omega | (simp only [List.length_append, List.length_cons, List.length_nil, List.length_set, List.length_replicate, Int.toNat_natCast]; omega)) [idf_Wd', h8, idf_Wd', idf_numS, cells_numS, numS_fold]) (by simp (disch := first | omega | (simp only [List.length_append, List.length_cons, List.length_nil, List.length_set, List.length_replicate, Int.toNat_natCast]; omega)) [h8]) (by simp) ?_
      simp only [puts_some, updo]
      refine AOPS.all (by simp (disch := first | omega | (simp only [List.length_append, List.length_cons, List.length_nil, List.length_set, List.length_replicate, Int.toNat_natCast]; omega)) [szT2, agT2, unT2, zoT2, byT2, idf_Wd', idf_numS, cells_numS, numS_fold, h8]; rfl) ?_
      refine hK14 _ ?_
      refine cond_ok _ (by simp (disch := first | omega | (simp only [List.length_append, List.length_cons, List.length_nil, List.length_set, List.length_replicate, Int.toNat_natCast]; omega)); rfl) (fun h35 => ?_) (fun h35 => ?_)
      · try simp only [decide_eq_true_eq, decide_eq_false_iff_not] at h35
        have hle : (d : Int) * 2 ^ k ≤ R := by
          have := cmpS_dg R ((d * 2 ^ k : Nat) : Int)
          rw [es] at this
          have hp := pow2_pos k
          have : 0 ≤ (d : Int) * 2 ^ k := Int.mul_nonneg (by omega) (by omega)
          omega
        have hsub := subS_spec (dg_dig R) (dg_dig ((d * 2 ^ k : Nat) : Int)) (dg_len_mono (by rw [es]; omega)) (by rw [dg_val, dg_val, es]; omega)
        rw [dg_val, dg_val] at hsub
        have hT := l1Trim_fc false (subS (dg R) (dg ((d * 2 ^ k : Nat) : Int))) (by omega) hsub.1
        rw [hsub.2.2, sg_false, es] at hT
        rw [show (R.natAbs : Int) - (((d : Int) * 2 ^ k).natAbs : Int) = R - (d : Int) * 2 ^ k from by omega] at hT
        refine AWP.seqk fun K15 hK15 => ?_
        refine AWP.region ?_
        refine AOPS.runk 2 (by simp (disch := first | omega | (simp only [List.length_append, List.length_cons, List.length_nil, List.length_set, List.length_replicate, Int.toNat_natCast]; omega)) [List.take_succ_cons, List.take_zero, szT4, agT4, unT4, zoT4, byT4, szT90, agT90, elT90, unT90, zoT90, byT90, szT92, agT92, flT92, zoT92, byT92, fdT92_0, fdT92_1, idf_Wd', idf_numS, cells_numS, numS_fold, h8]; rfl) ?_
        simp only [List.drop_succ_cons, List.drop_zero]
        refine AOPS.fcall (l1SubAbs_fc (dg R) (dg ((d * 2 ^ k : Nat) : Int)) (by omega) (dg_dig _) (dg_dig _)) rfl rfl rfl hb145 (by simp [h8, idf_Wd']) (by simp) (by simp) ?_
        simp only [puts_some]
        refine AOPS.fcall hT rfl rfl rfl hb138 (by simp) (by simp) (by simp) ?_
        simp only [puts_some]
        refine AOPS.opval (Wd .u32 (dg (R - (d : Int) * 2 ^ k))) (fld_numS _) (by simp) (by simp) ?_
        simp only [puts_some]
        refine AOPS.all (by simp; rfl) ?_
        refine hK15 _ ?_
        refine AWP.region (AOPS.all (by simp (disch := first | omega | (simp only [List.length_append, List.length_cons, List.length_nil, List.length_set, List.length_replicate, Int.toNat_natCast]; omega)) [szT2, agT2, unT2, zoT2, byT2, szT90, agT90, elT90, unT90, zoT90, byT90, szT144, agT144, unT144, zoT144, byT144, szT180, agT180, unT180, zoT180, byT180, idx_WdD (P := Try.prog) elT90 szT180, if_pos, idf_Wd', idf_numS, cells_numS, numS_fold, h7, h9, hH, hq, eqk, eqm, ld_ip agT180, hS.or.1, IntKind.bits]; rfl) ?_)
        refine hK12 _ ?_
        refine AWP.region (AOPS.all (by simp (disch := first | omega | (simp only [List.length_append, List.length_cons, List.length_nil, List.length_set, List.length_replicate, Int.toNat_natCast]; omega)) [szT2, agT2, unT2, zoT2, byT2, idf_Wd', idf_numS, cells_numS, numS_fold, h9]; rfl) ?_)
        refine ⟨k, by omega, k, id, q.set (k / 32) (gt q (k / 32) + 2 ^ (k % 32)), R - (d : Int) * 2 ^ k, rfl, by omega, hS.take hle (by omega), by simp [hq], by omega, by simp [h1], by simp [h7], by simp, by simp [h9], by simp [tq, tm, wp, hS.or.1], by simpa using hid, rfl⟩
      · try simp only [decide_eq_true_eq, decide_eq_false_iff_not] at h35
        have hlt : R < (d : Int) * 2 ^ k := by
          have := cmpS_dg R ((d * 2 ^ k : Nat) : Int)
          rw [es] at this
          have hp := pow2_pos k
          have : 0 ≤ (d : Int) * 2 ^ k := Int.mul_nonneg (by omega) (by omega)
          omega
        refine AWP.skip ?_
        refine hK12 _ ?_
        refine AWP.region (AOPS.all (by simp (disch := first | omega | (simp only [List.length_append, List.length_cons, List.length_nil, List.length_set, List.length_replicate, Int.toNat_natCast]; omega)) [szT2, agT2, unT2, zoT2, byT2, idf_Wd', idf_numS, cells_numS, numS_fold, h9]; rfl) ?_)
        refine ⟨k, by omega, k, id, q, R, rfl, by omega, hS.skip hlt, hq, hR, by simp [h1], by simp [h7], by simp [h8], by simp [h9], by simp [hH], by simpa using hid, rfl⟩
    · try simp only [decide_eq_true_eq, decide_eq_false_iff_not] at h26
      obtain rfl : n = 0 := by omega
      obtain ⟨hd1, hd2⟩ := hS.done
      have hT := l1Trim_fc false q (by omega) hS.dig
      rw [sg_false, hd1] at hT
      rw [hd2] at h8
      refine AWP.exit ?_
      refine hK8 _ ?_
      refine AWP.seqk fun K16 hK16 => ?_
      refine AWP.region ?_
      refine AOPS.runk 1 (by simp (disch := first | omega | (simp only [List.length_append, List.length_cons, List.length_nil, List.length_set, List.length_replicate, Int.toNat_natCast]; omega)) [List.take_succ_cons, List.take_zero, szT4, agT4, unT4, zoT4, byT4, szT90, agT90, elT90, unT90, zoT90, byT90, szT92, agT92, flT92, zoT92, byT92, fdT92_0, fdT92_1, idf_Wd', idf_numS, cells_numS, numS_fold, h7, h8]; rfl) ?_
      simp only [List.drop_succ_cons, List.drop_zero]
      refine AOPS.frz1 55 id 1 (wd .u32 q) (Wd .u32 q) (by simp [hH]) (by simp [h7, ← hq]; first | exact fz_wd rfl | exact isl_take_wd (Nat.le_refl _)) ?_
      refine AOPS.fcall hT rfl rfl rfl hb138 (by simp) (by simp) (by simp) ?_
      simp only [puts_some]
      refine AOPS.opval (Wd .u32 (dg ((a / d : Nat) : Int))) (fld_numS _) (by simp) (by simp) ?_
      simp only [puts_some]
      refine AOPS.all (by simp (disch := first | omega | (simp only [List.length_append, List.length_cons, List.length_nil, List.length_set, List.length_replicate, Int.toNat_natCast]; omega)) [List.take_succ_cons, List.take_zero, szT4, agT4, unT4, zoT4, byT4, szT90, agT90, elT90, unT90, zoT90, byT90, szT92, agT92, flT92, zoT92, byT92, fdT92_0, fdT92_1, idf_Wd', idf_numS, cells_numS, numS_fold, h7, h8]; rfl) ?_
      refine hK16 _ ?_
      refine AWP.ret ?_
      exact hK _ _ _ _ trivial (Fin.mk (by simp (disch := first | omega | (simp only [List.length_append, List.length_cons, List.length_nil, List.length_set, List.length_replicate, Int.toNat_natCast]; omega)) [aRes, aResL, aRes1, idf_Wd', idf_numS, cells_numS, numS_fold]))

set_option maxHeartbeats 2000000 in
theorem l1Gcd_fc {j : Nat} (a b : Int) (ha : Bg j a) (hb : Bg j b) (hj : j ≤ 16777216) : FC Try.prog 88 [numS a, numS b] (numS ((Int.gcd a b : Nat) : Int)) := by
  refine FC.body Try.func88 rfl (by simp [idfL, idf, idfLL_iff, idf_Wd', idf_numS, cells_numS, numS_fold]) (by simp [idfL, idf, idfLL_iff, idf_Wd', idf_numS, cells_numS, numS_fold]) 26 rfl fun nx K hK => ?_
  refine AWP.seqk fun K1 hK1 => ?_
  refine AWP.region (AOPS.all (by simp (disch := first | omega | (simp only [List.length_append, List.length_cons, List.length_nil, List.length_set, List.length_replicate, Int.toNat_natCast]; omega)) [szT4, agT4, unT4, zoT4, byT4, szT90, agT90, elT90, unT90, zoT90, byT90, szT92, agT92, flT92, zoT92, byT92, fdT92_0, fdT92_1, idf_Wd', idf_numS, cells_numS, numS_fold]; rfl) ?_)
  refine hK1 _ ?_
  refine AWP.seqk fun K2 hK2 => ?_
  refine AWP.region (AOPS.all (by simp (disch := first | omega | (simp only [List.length_append, List.length_cons, List.length_nil, List.length_set, List.length_replicate, Int.toNat_natCast]; omega)) [szT4, agT4, unT4, zoT4, byT4, szT90, agT90, elT90, unT90, zoT90, byT90, szT92, agT92, flT92, zoT92, byT92, szT180, agT180, unT180, zoT180, byT180, fdT92_0, fdT92_1, idf_Wd', idf_numS, cells_numS, numS_fold]; rfl) ?_)
  refine hK2 _ ?_
  refine AWP.seqk fun K3 hK3 => ?_
  refine AWP.region (AOPS.all (by simp (disch := first | omega | (simp only [List.length_append, List.length_cons, List.length_nil, List.length_set, List.length_replicate, Int.toNat_natCast]; omega)) [szT4, agT4, unT4, zoT4, byT4, szT90, agT90, elT90, unT90, zoT90, byT90, szT92, agT92, flT92, zoT92, byT92, szT180, agT180, unT180, zoT180, byT180, fdT92_0, fdT92_1, idf_Wd', idf_numS, cells_numS, numS_fold]; rfl) ?_)
  refine hK3 _ ?_
  refine AWP.seqk fun K4 hK4 => ?_
  refine AWP.block ?_
  refine AWP.loop (fun n s => ∃ x y : Nat, n = y ∧ Nat.gcd x y = Int.gcd a b ∧ Bg j x ∧ Bg j y ∧ s.env 4 = .ptr (nx + 1 + 1) 0 0 ∧ s.env 5 = Wd .u32 (dg (x : Int)) ∧ s.env 6 = Wd .u32 (dg (y : Int)) ∧ s.heap (nx + 1 + 1) = some (2, [[.bool false, .nsl]]) ∧ s.nt = 26) (b.natAbs) (⟨a.natAbs, b.natAbs, rfl, rfl, ha.abs, hb.abs, by simp, by simp [dg_abs], by simp [dg_abs], by simp, rfl⟩) ?_
  rintro n ⟨e, H, m, nt⟩ ⟨x, y, rfl, hg, bx, bY, h4, h5, h6, hH, rfl⟩
  simp only [] at h4 h5 h6 hH
  have lx := bx.len32
  have ly := bY.len32
  refine AWP.seqk fun K5 hK5 => ?_
  refine AWP.seqk fun K6 hK6 => ?_
  refine AWP.region (AOPS.all (by simp (disch := first | omega | (simp only [List.length_append, List.length_cons, List.length_nil, List.length_set, List.length_replicate, Int.toNat_natCast]; omega)) [szT3, agT3, unT3, zoT3, byT3, szT90, agT90, elT90, unT90, zoT90, byT90, szT180, agT180, unT180, zoT180, byT180, len_Wd (P := Try.prog) #[90] rfl elT90, idf_Wd', idf_numS, cells_numS, numS_fold, h6]; rfl) ?_)
  refine hK6 _ ?_
  refine cond_ok _ (by simp (disch := first | omega | (simp only [List.length_append, List.length_cons, List.length_nil, List.length_set, List.length_replicate, Int.toNat_natCast]; omega)); rfl) (fun h15 => ?_) (fun h15 => ?_)
  · try simp only [decide_eq_true_eq, decide_eq_false_iff_not] at h15
    have hy : n ≠ 0 := fun h => by
      subst h
      simp [dg_zero] at h15
    refine AWP.skip ?_
    refine hK5 _ ?_
    refine AWP.block ?_
    refine AWP.seqk fun K7 hK7 => ?_
    refine AWP.region ?_
    refine AOPS.runk 2 (by simp (disch := first | omega | (simp only [List.length_append, List.length_cons, List.length_nil, List.length_set, List.length_replicate, Int.toNat_natCast]; omega)) [List.take_succ_cons, List.take_zero, idf_Wd', idf_numS, cells_numS, numS_fold, h5, h6]; rfl) ?_
    simp only [List.drop_succ_cons, List.drop_zero]
    refine AOPS.fcall (l1DivAbs_fc x n hy bx bY hj) rfl rfl rfl hb137 (by simp (disch := first | omega | (simp only [List.length_append, List.length_cons, List.length_nil, List.length_set, List.length_replicate, Int.toNat_natCast]; omega)) [idf_Wd', h5, h6, idf_Wd', idf_numS, cells_numS, numS_fold]) (by simp (disch := first | omega | (simp only [List.length_append, List.length_cons, List.length_nil, List.length_set, List.length_replicate, Int.toNat_natCast]; omega)) [h5, h6]) (by simp) ?_
    simp only [puts_some, updo]
    refine AOPS.all (by simp (disch := first | omega | (simp only [List.length_append, List.length_cons, List.length_nil, List.length_set, List.length_replicate, Int.toNat_natCast]; omega)) [idf_Wd', idf_numS, cells_numS, numS_fold, h5, h6]; rfl) ?_
    refine hK7 _ ?_
    refine AWP.region (AOPS.all (by simp (disch := first | omega | (simp only [List.length_append, List.length_cons, List.length_nil, List.length_set, List.length_replicate, Int.toNat_natCast]; omega)) [idf_Wd', idf_numS, cells_numS, numS_fold, h6]; rfl) ?_)
    refine ⟨x % n, Nat.mod_lt _ (by omega), n, x % n, rfl, by rw [← hg, Nat.gcd_comm n, ← Nat.gcd_rec, Nat.gcd_comm], bY, bY.mod x (by omega), by simp [h4], by simp [h6], by simp, by simp [hH], rfl⟩
  · try simp only [decide_eq_true_eq, decide_eq_false_iff_not] at h15
    have hy : n = 0 := by
      have : (dg (n : Int)).length = 0 := by omega
      rw [dg_len0] at this; omega
    subst hy
    rw [Nat.gcd_zero_right] at hg
    have hT := l1Trim_fc false (dg (x : Int)) (by omega) (dg_dig _)
    rw [sg_false, dg_val, Int.natAbs_natCast, hg] at hT
    rw [hg] at h5
    refine AWP.exit ?_
    refine hK4 _ ?_
    refine AWP.seqk fun K8 hK8 => ?_
    refine AWP.region ?_
    refine AOPS.runk 1 (by simp (disch := first | omega | (simp only [List.length_append, List.length_cons, List.length_nil, List.length_set, List.length_replicate, Int.toNat_natCast]; omega)) [List.take_succ_cons, List.take_zero, szT4, agT4, unT4, zoT4, byT4, szT90, agT90, elT90, unT90, zoT90, byT90, szT92, agT92, flT92, zoT92, byT92, fdT92_0, fdT92_1, idf_Wd', idf_numS, cells_numS, numS_fold, h4, h5, hH]; rfl) ?_
    simp only [List.drop_succ_cons, List.drop_zero]
    refine AOPS.fcall (hT) rfl rfl rfl hb138 (by simp (disch := first | omega | (simp only [List.length_append, List.length_cons, List.length_nil, List.length_set, List.length_replicate, Int.toNat_natCast]; omega)) [idf_Wd', h4, h5, hH, idf_Wd', idf_numS, cells_numS, numS_fold]) (by simp (disch := first | omega | (simp only [List.length_append, List.length_cons, List.length_nil, List.length_set, List.length_replicate, Int.toNat_natCast]; omega)) [h4, h5, hH]) (by simp) ?_
    simp only [puts_some, updo]
    refine AOPS.all (by simp (disch := first | omega | (simp only [List.length_append, List.length_cons, List.length_nil, List.length_set, List.length_replicate, Int.toNat_natCast]; omega)) [szT4, agT4, unT4, zoT4, byT4, szT90, agT90, elT90, unT90, zoT90, byT90, szT92, agT92, flT92, zoT92, byT92, fdT92_0, fdT92_1, idf_Wd', idf_numS, cells_numS, numS_fold, h4, h5, hH]; rfl) ?_
    refine hK8 _ ?_
    refine AWP.ret ?_
    exact hK _ _ _ _ trivial (Fin.mk (by simp (disch := omega) [aRes, aResL, aRes1, h4, szT92, agT92, idf_Wd', idf_numS, cells_numS, numS_fold]))

end Go.Proofs.Ytdcggmbnjonemaa

/- Walks: the quotient of 128 bits by 64. -/
namespace Go.Proofs.Ytdcggmbnjonemaa
open Go Go.RowKit
set_option linter.unusedSimpArgs false
set_option linter.unusedVariables false
set_option maxRecDepth 100000
attribute [local simp] List.getElem?_cons_zero List.getElem?_cons_succ List.getElem?_toArray runOps stepOp.eq_def agd.eq_def dstOk.eq_def opVal.eq_def opNew.eq_def opSto.eq_def ev.eq_def cv.eq_def puts_some puts_none upd_ap lst.eq_def aBin.eq_def aUn.eq_def aBi_str aBi_isl aBi_osl aBi_nsl aBi_max aBi_min aBi_max3 aConv.eq_def aLd.eq_def aLoad.eq_def aField.eq_def aFld.eq_def aIdx_isl aIdx_osl aSlc_isl aSlc_osl aSlc_str aSlc_nsl bnd.eq_def evs_nil evs_cons aBuild.eq_def aFill splice.eq_def cells_agg cells_int cells_bool cells_str cells_nil cells_nsl cells_isl cells_osl cells_ptr cells_ip cells_fn cells_Wd one_int one_bool one_str one_nil one_nsl one_isl one_osl one_ptr one_ip one_fn one_Wd aSets hupd_eq hupd_ne wrap_i64s wrap_u64s wrap_u32s wrap_u8s wd_getD wd_set wd_len wd_replicate wd_one wd_fold fz_osl hupd_same aSix.eq_def aEqS.eq_def aEqB_bool aEqB_nsl aEqB_nil

set_option maxHeartbeats 4000000 in
theorem div64_fc {hi lo y0 : Int} (h0 : 0 ≤ hi) (h1 : hi < y0) (hl0 : 0 ≤ lo) (hl : lo < 18446744073709551616) (hy : y0 < 18446744073709551616) : FC Try.prog 147 [.int .u64 hi, .int .u64 lo, .int .u64 y0] (.tup [.int .u64 ((hi * 18446744073709551616 + lo) / y0), .int .u64 ((hi * 18446744073709551616 + lo) % y0)]) := by
  obtain ⟨y, rfl⟩ := Int.eq_ofNat_of_zero_le (show 0 ≤ y0 by omega)
  obtain ⟨S, p, Y, U, X, hbl, hS, hp, hp0, hY, hYp, hY1, hY2, hhi0, hhi1, hor, hU0, hU, hX, hN⟩ := dv_norm h0 h1 hl0 hl (show y < 18446744073709551616 by omega)
  have hX0 : 0 ≤ X ∧ X < 18446744073709551616 := by omega
  have hwX : IntKind.u64.wrap (lo * 2 ^ S) = X := by rw [wrap_u64m, hX]
  have hmin : min S 64 = S := by omega
  have hmin2 : min (64 - S) 64 = 64 - S := by omega
  have w8 : (64 : Int) - (bitLen y : Int) = S := by omega
  have hyn : y ≠ 0 := by omega
  have c64 : (S : Int) ≤ 64 := by omega
  have w9 : ((64 : Int) - (S : Int)).toNat = 64 - S := by omega
  have f1 : (lo.fdiv (2 ^ (64 - S))) = lo / 2 ^ (64 - S) := Int.fdiv_eq_ediv_of_nonneg _ (Int.le_of_lt (pow2_pos _))
  refine FC.body Try.func147 rfl (by simp [idfL, idf, idfLL_iff]) (by simp [idfL, idf, idfLL_iff]) 135 rfl fun nx K hK => ?_
  refine AWP.seqk fun K1 hK1 => ?_
  refine AWP.region (AOPS.all (by simp (disch := first | omega | (simp only [List.length_append, List.length_cons, List.length_nil, List.length_set, List.length_replicate, Int.toNat_natCast]; omega)); rfl) ?_)
  refine hK1 _ ?_
  refine AWP.seqk fun K2 hK2 => ?_
  refine AWP.seqk fun K3 hK3 => ?_
  refine AWP.region (AOPS.all (by simp (disch := first | omega | (simp only [List.length_append, List.length_cons, List.length_nil, List.length_set, List.length_replicate, Int.toNat_natCast]; omega)) [szT31, agT31, unT31, zoT31, byT31]; rfl) ?_)
  refine hK3 _ ?_
  refine cond_ok _ (by simp (disch := first | omega | (simp only [List.length_append, List.length_cons, List.length_nil, List.length_set, List.length_replicate, Int.toNat_natCast]; omega)); rfl) (fun h20 => ?_) (fun h20 => ?_)
  · simp at h20; omega
  · try simp only [decide_eq_true_eq, decide_eq_false_iff_not] at h20
    refine AWP.skip ?_
    refine hK2 _ ?_
    refine AWP.seqk fun K4 hK4 => ?_
    refine AWP.seqk fun K5 hK5 => ?_
    refine AWP.region (AOPS.all (by simp (disch := first | omega | (simp only [List.length_append, List.length_cons, List.length_nil, List.length_set, List.length_replicate, Int.toNat_natCast]; omega)) [szT31, agT31, unT31, zoT31, byT31]; rfl) ?_)
    refine hK5 _ ?_
    refine cond_ok _ (by simp (disch := first | omega | (simp only [List.length_append, List.length_cons, List.length_nil, List.length_set, List.length_replicate, Int.toNat_natCast]; omega)); rfl) (fun h24 => ?_) (fun h24 => ?_)
    · simp at h24; omega
    · try simp only [decide_eq_true_eq, decide_eq_false_iff_not] at h24
      refine AWP.skip ?_
      refine hK4 _ ?_
      refine AWP.seqk fun K6 hK6 => ?_
      refine AWP.seqk fun K7 hK7 => ?_
      refine AWP.region (AOPS.all (by simp (disch := first | omega | (simp only [List.length_append, List.length_cons, List.length_nil, List.length_set, List.length_replicate, Int.toNat_natCast]; omega)) [szT31, agT31, unT31, zoT31, byT31]; rfl) ?_)
      refine hK7 _ ?_
      refine cond_ok _ (by simp (disch := first | omega | (simp only [List.length_append, List.length_cons, List.length_nil, List.length_set, List.length_replicate, Int.toNat_natCast]; omega)); rfl) (fun h27 => ?_) (fun h27 => ?_)
      · try simp only [decide_eq_true_eq, decide_eq_false_iff_not] at h27
        have hi0 : hi = 0 := by simpa using h27
        subst hi0
        have tq1 : lo.tdiv (y : Int) = lo / y := Int.tdiv_eq_ediv_of_nonneg hl0
        have tq2 : lo.tmod (y : Int) = lo % y := Int.tmod_eq_emod_of_nonneg hl0
        have dn0 : 0 ≤ lo / (y : Int) := Int.ediv_nonneg hl0 (by omega)
        have dn1 : lo / (y : Int) ≤ lo := Int.ediv_le_self _ hl0
        have dn2 := Int.emod_nonneg lo (show (y : Int) ≠ 0 by omega)
        have dn3 := Int.emod_lt_of_pos lo h1
        refine AWP.seqk fun K8 hK8 => ?_
        refine AWP.drawF 6 Try.checked.mixed (by kernel_rfl) (by simp (disch := first | omega | (simp only [List.length_append, List.length_cons, List.length_nil, List.length_set, List.length_replicate, Int.toNat_natCast]; omega)) [runDf.eq_def, runF1, runF2, stepF.eq_def, updo.eq_def, hupo.eq_def, opSto1.eq_def, szT31, agT31, unT31, zoT31, byT31, tq1, tq2, hyn]; rfl) ?_
        refine hK8 _ ?_
        refine AWP.ret ?_
        exact hK _ _ _ _ trivial ((Fin.mk (by simp [aRes, aResL, aRes1]; rfl)).cast (by simp))
      · try simp only [decide_eq_true_eq, decide_eq_false_iff_not] at h27
        refine AWP.skip ?_
        refine hK6 _ ?_
        refine AWP.seqk fun K9 hK9 => ?_
        refine AWP.region ?_
        refine AOPS.runk 1 (by simp (disch := first | omega | (simp only [List.length_append, List.length_cons, List.length_nil, List.length_set, List.length_replicate, Int.toNat_natCast]; omega)) [List.take_succ_cons, List.take_zero, szT3, agT3, unT3, zoT3, byT3, szT144, agT144, unT144, zoT144, byT144, w8]; rfl) ?_
        simp only [List.drop_succ_cons, List.drop_zero]
        refine AOPS.fcall (lz64_fc y (by omega)) rfl rfl rfl hb146 (by simp (disch := first | omega | (simp only [List.length_append, List.length_cons, List.length_nil, List.length_set, List.length_replicate, Int.toNat_natCast]; omega)) [idf_Wd', w8]) (by simp (disch := first | omega | (simp only [List.length_append, List.length_cons, List.length_nil, List.length_set, List.length_replicate, Int.toNat_natCast]; omega)) [w8]) (by simp) ?_
        simp only [puts_some, updo]
        refine AOPS.all (by simp (disch := first | omega | (simp only [List.length_append, List.length_cons, List.length_nil, List.length_set, List.length_replicate, Int.toNat_natCast]; omega)) [szT3, agT3, unT3, zoT3, byT3, szT144, agT144, unT144, zoT144, byT144, w8]; rfl) ?_
        refine hK9 _ ?_
        refine AWP.seqk fun K10 hK10 => ?_
        refine AWP.region (AOPS.all (by simp (disch := first | omega | (simp only [List.length_append, List.length_cons, List.length_nil, List.length_set, List.length_replicate, Int.toNat_natCast]; omega)) [szT31, agT31, unT31, zoT31, byT31, hmin, hY, IntKind.bits]; rfl) ?_)
        refine hK10 _ ?_
        refine AWP.seqk fun K11 hK11 => ?_
        refine AWP.region (AOPS.all (by simp (disch := first | omega | (simp only [List.length_append, List.length_cons, List.length_nil, List.length_set, List.length_replicate, Int.toNat_natCast]; omega)) [szT31, agT31, unT31, zoT31, byT31, IntKind.bits, Int.fdiv_eq_ediv_of_nonneg]; rfl) ?_)
        refine hK11 _ ?_
        refine AWP.seqk fun K12 hK12 => ?_
        refine AWP.region (AOPS.all (by simp (disch := first | omega | (simp only [List.length_append, List.length_cons, List.length_nil, List.length_set, List.length_replicate, Int.toNat_natCast]; omega)) [szT31, agT31, unT31, zoT31, byT31, and_low32]; rfl) ?_)
        refine hK12 _ ?_
        refine AWP.seqk fun K13 hK13 => ?_
        refine AWP.region (AOPS.all (by simp (disch := first | omega | (simp only [List.length_append, List.length_cons, List.length_nil, List.length_set, List.length_replicate, Int.toNat_natCast]; omega)) [szT31, agT31, unT31, zoT31, byT31, szT144, agT144, unT144, zoT144, byT144, hmin, hmin2, w9, hor, f1, c64, IntKind.bits]; rfl) ?_)
        refine hK13 _ ?_
        refine AWP.seqk fun K14 hK14 => ?_
        refine AWP.region (AOPS.all (by simp (disch := first | omega | (simp only [List.length_append, List.length_cons, List.length_nil, List.length_set, List.length_replicate, Int.toNat_natCast]; omega)) [szT31, agT31, unT31, zoT31, byT31, hmin, hwX, IntKind.bits]; rfl) ?_)
        refine hK14 _ ?_
        refine AWP.seqk fun K15 hK15 => ?_
        refine AWP.region (AOPS.all (by simp (disch := first | omega | (simp only [List.length_append, List.length_cons, List.length_nil, List.length_set, List.length_replicate, Int.toNat_natCast]; omega)) [szT31, agT31, unT31, zoT31, byT31, IntKind.bits, Int.fdiv_eq_ediv_of_nonneg]; rfl) ?_)
        refine hK15 _ ?_
        refine AWP.seqk fun K16 hK16 => ?_
        refine AWP.region (AOPS.all (by simp (disch := first | omega | (simp only [List.length_append, List.length_cons, List.length_nil, List.length_set, List.length_replicate, Int.toNat_natCast]; omega)) [szT31, agT31, unT31, zoT31, byT31, and_low32]; rfl) ?_)
        refine hK16 _ ?_
        refine AWP.seqk fun K17 hK17 => ?_
        have hy1n : Y / 4294967296 ≠ 0 := by omega
        have eY : Y / 4294967296 * 4294967296 + Y % 4294967296 = Y := by omega
        have hD0 := DvH.start (y1 := Y / 4294967296) (y0 := Y % 4294967296) (u := U) (un := X / 4294967296) (by omega) (by omega) (by omega) hU0 (by omega) (by omega)
        have hd0 := hD0.q0
        have hd1 := hD0.qm
        have hd2 := hD0.r0
        have hd3 := hD0.e
        have tq : U.tdiv (Y / 4294967296) = U / (Y / 4294967296) := Int.tdiv_eq_ediv_of_nonneg hU0
        have dm := Int.emod_lt_of_pos U (show 0 < Y / 4294967296 by omega)
        have dm2 := Int.mul_ediv_add_emod U (Y / 4294967296)
        rw [Int.mul_comm] at dm2
        have w16 : IntKind.u64.wrap (U - IntKind.u64.wrap (U / (Y / 4294967296) * (Y / 4294967296))) = U - U / (Y / 4294967296) * (Y / 4294967296) := by simp only [wrap_u64m]; omega
        refine AWP.region (AOPS.all (by simp (disch := first | omega | (simp only [List.length_append, List.length_cons, List.length_nil, List.length_set, List.length_replicate, Int.toNat_natCast]; omega)) [szT31, agT31, unT31, zoT31, byT31, tq, hy1n]; rfl) ?_)
        refine hK17 _ ?_
        refine AWP.seqk fun K18 hK18 => ?_
        refine AWP.region (AOPS.all (by simp (disch := first | omega | (simp only [List.length_append, List.length_cons, List.length_nil, List.length_set, List.length_replicate, Int.toNat_natCast]; omega)) [szT31, agT31, unT31, zoT31, byT31]; rfl) ?_)
        refine hK18 _ ?_
        refine AWP.seqk fun K19 hK19 => ?_
        have J19 : ∀ s : St, (∃ q : Int, 0 ≤ q ∧ q < 4294967296 ∧ 0 ≤ (U) * 4294967296 + X / 4294967296 - q * Y ∧ (U) * 4294967296 + X / 4294967296 - q * Y < Y ∧ s.env 2 = .int .u64 Y ∧ s.env 8 = .int .u64 (S : Int) ∧ s.env 9 = .int .u64 (Y / 4294967296) ∧ s.env 10 = .int .u64 (Y % 4294967296) ∧ s.env 11 = .int .u64 U ∧ s.env 13 = .int .u64 (X / 4294967296) ∧ s.env 14 = .int .u64 (X % 4294967296) ∧ s.env 15 = .int .u64 q ∧ s.nt = 135) → K19 s := by
          rintro ⟨e, H, m, nt⟩ ⟨q1, q10, q11, k0, k1, g2, g8, g9, g10, g11, g13, g14, g15, rfl⟩
          simp only [] at g2 g8 g9 g10 g11 g13 g14 g15
          obtain ⟨R1, hR1⟩ : ∃ R1, U * 4294967296 + X / 4294967296 - q1 * Y = R1 := ⟨_, rfl⟩
          rw [hR1] at k0 k1
          have hR1' : IntKind.u64.wrap (IntKind.u64.wrap (IntKind.u64.wrap (U * 4294967296) + X / 4294967296) - IntKind.u64.wrap (q1 * Y)) = R1 := by
            simp only [wrap_u64m]; omega
          refine hK19 _ ?_
          refine AWP.seqk fun K20 hK20 => ?_
          refine AWP.region (AOPS.all (by simp (disch := first | omega | (simp only [List.length_append, List.length_cons, List.length_nil, List.length_set, List.length_replicate, Int.toNat_natCast]; omega)) [szT31, agT31, unT31, zoT31, byT31, g11, g13, g15, g2, hR1']; rfl) ?_)
          refine hK20 _ ?_
          refine AWP.seqk fun K21 hK21 => ?_
          have hy1n : Y / 4294967296 ≠ 0 := by omega
          have eY : Y / 4294967296 * 4294967296 + Y % 4294967296 = Y := by omega
          have hD0 := DvH.start (y1 := Y / 4294967296) (y0 := Y % 4294967296) (u := R1) (un := X % 4294967296) (by omega) (by omega) (by omega) k0 (by omega) (by omega)
          have hd0 := hD0.q0
          have hd1 := hD0.qm
          have hd2 := hD0.r0
          have hd3 := hD0.e
          have tq : R1.tdiv (Y / 4294967296) = R1 / (Y / 4294967296) := Int.tdiv_eq_ediv_of_nonneg k0
          have dm := Int.emod_lt_of_pos R1 (show 0 < Y / 4294967296 by omega)
          have dm2 := Int.mul_ediv_add_emod R1 (Y / 4294967296)
          rw [Int.mul_comm] at dm2
          have w16 : IntKind.u64.wrap (R1 - IntKind.u64.wrap (R1 / (Y / 4294967296) * (Y / 4294967296))) = R1 - R1 / (Y / 4294967296) * (Y / 4294967296) := by simp only [wrap_u64m]; omega
          refine AWP.region (AOPS.all (by simp (disch := first | omega | (simp only [List.length_append, List.length_cons, List.length_nil, List.length_set, List.length_replicate, Int.toNat_natCast]; omega)) [szT31, agT31, unT31, zoT31, byT31, g9, tq, hy1n]; rfl) ?_)
          refine hK21 _ ?_
          refine AWP.seqk fun K22 hK22 => ?_
          refine AWP.region (AOPS.all (by simp (disch := first | omega | (simp only [List.length_append, List.length_cons, List.length_nil, List.length_set, List.length_replicate, Int.toNat_natCast]; omega)) [szT31, agT31, unT31, zoT31, byT31, g9]; rfl) ?_)
          refine hK22 _ ?_
          refine AWP.seqk fun K23 hK23 => ?_
          have J23 : ∀ s : St, (∃ q : Int, 0 ≤ q ∧ q < 4294967296 ∧ 0 ≤ (R1) * 4294967296 + X % 4294967296 - q * Y ∧ (R1) * 4294967296 + X % 4294967296 - q * Y < Y ∧ s.env 2 = .int .u64 Y ∧ s.env 8 = .int .u64 (S : Int) ∧ s.env 9 = .int .u64 (Y / 4294967296) ∧ s.env 10 = .int .u64 (Y % 4294967296) ∧ s.env 14 = .int .u64 (X % 4294967296) ∧ s.env 15 = .int .u64 q1 ∧ s.env 17 = .int .u64 R1 ∧ s.env 18 = .int .u64 q ∧ s.nt = 135) → K23 s := by
            clear g2 g8 g9 g10 g11 g13 g14 g15
            rintro ⟨e, H, m, nt⟩ ⟨q0, q00, q01, k2, k3, g2, g8, g9, g10, g14, g15, g17, g18, rfl⟩
            simp only [] at g2 g8 g9 g10 g14 g15 g17 g18
            obtain ⟨R0, hR0⟩ : ∃ R0, R1 * 4294967296 + X % 4294967296 - q0 * Y = R0 := ⟨_, rfl⟩
            rw [hR0] at k2 k3
            have hR0' : IntKind.u64.wrap (IntKind.u64.wrap (IntKind.u64.wrap (R1 * 4294967296) + X % 4294967296) - IntKind.u64.wrap (q0 * Y)) = R0 := by
              simp only [wrap_u64m]; omega
            have hf := dv_fin (N := hi * 18446744073709551616 + lo) (y := (y : Int)) (u := U) (un1 := X / 4294967296) (un0 := X % 4294967296) (q1 := q1) (q0 := q0) (R1 := R1) (R0 := R0) hp0 (by rw [← hYp]; exact hR1) (by rw [← hYp]; exact hR0) (by rw [hN]; omega) k2 (by rw [← hYp]; exact k3)
            have f2 : R0.fdiv (2 ^ S) = R0 / 2 ^ S := Int.fdiv_eq_ediv_of_nonneg _ (Int.le_of_lt (pow2_pos _))
            refine hK23 _ ?_
            refine AWP.seqk fun K24 hK24 => ?_
            refine AWP.region (AOPS.all (by simp (disch := first | omega | (simp only [List.length_append, List.length_cons, List.length_nil, List.length_set, List.length_replicate, Int.toNat_natCast]; omega)) [szT31, agT31, unT31, zoT31, byT31, g2, g8, g14, g15, g17, g18, hR0', hmin, IntKind.bits, f2]; rfl) ?_)
            refine hK24 _ ?_
            refine AWP.ret ?_
            exact hK _ _ _ _ trivial ((Fin.mk (by simp [aRes, aResL, aRes1]; rfl)).cast (by first | rw [hf.1, hf.2, hp] | skip))
          refine AWP.block ?_
          refine AWP.loop (fun n s => ∃ q r : Int, n = q.toNat ∧ DvH (Y / 4294967296) (Y % 4294967296) (R1) (X % 4294967296) q r ∧ r < 4294967296 ∧ s.env 2 = .int .u64 Y ∧ s.env 8 = .int .u64 (S : Int) ∧ s.env 9 = .int .u64 (Y / 4294967296) ∧ s.env 10 = .int .u64 (Y % 4294967296) ∧ s.env 14 = .int .u64 (X % 4294967296) ∧ s.env 15 = .int .u64 q1 ∧ s.env 17 = .int .u64 R1 ∧ s.env 18 = .int .u64 q ∧ s.env 16 = .int .u64 r ∧ s.nt = 135) (((R1) / (Y / 4294967296)).toNat) (⟨(R1) / (Y / 4294967296), (R1) - (R1) / (Y / 4294967296) * (Y / 4294967296), rfl, hD0, by omega, by simp [g2], by simp [g8], by simp [g9], by simp [g10], by simp [g14], by simp [g15], by simp, by simp, by simp [w16], rfl⟩) ?_
          rintro n ⟨e, H, m, nt⟩ ⟨q, r, rfl, hD, hr, g2, g8, g9, g10, g14, g15, g17, gq, gr, rfl⟩
          simp only [] at g2 g8 g9 g10 g14 g15 g17 gq gr
          have hr0 := hD.r0
          have hq0 := hD.q0
          have hqm := hD.qm
          refine AWP.seqk fun K25 hK25 => ?_
          refine AWP.seqk fun K26 hK26 => ?_
          by_cases hqB : 4294967296 ≤ q
          · have c1 : decide (4294967296 ≤ q) = true := by simp; omega
            refine AWP.region (AOPS.all (by simp (disch := first | omega | (simp only [List.length_append, List.length_cons, List.length_nil, List.length_set, List.length_replicate, Int.toNat_natCast]; omega)) [szT31, agT31, unT31, zoT31, byT31, gq, c1]; rfl) ?_)
            refine hK26 _ ?_
            refine cond_ok _ (by simp (disch := first | omega | (simp only [List.length_append, List.length_cons, List.length_nil, List.length_set, List.length_replicate, Int.toNat_natCast]; omega)); rfl) (fun h113 => ?_) (fun h113 => ?_)
            · try simp only [decide_eq_true_eq, decide_eq_false_iff_not] at h113
              have hq1 := hD.pos (by omega) (.inl hqB)
              have hst := hD.step (by omega) (by omega) (by omega) (by omega) (by omega) (.inl hqB)
              refine AWP.skip ?_
              refine hK25 _ ?_
              refine AWP.block ?_
              refine AWP.seqk fun K27 hK27 => ?_
              refine AWP.region (AOPS.all (by simp (disch := first | omega | (simp only [List.length_append, List.length_cons, List.length_nil, List.length_set, List.length_replicate, Int.toNat_natCast]; omega)) [szT31, agT31, unT31, zoT31, byT31, gq]; rfl) ?_)
              refine hK27 _ ?_
              refine AWP.seqk fun K28 hK28 => ?_
              refine AWP.region (AOPS.all (by simp (disch := first | omega | (simp only [List.length_append, List.length_cons, List.length_nil, List.length_set, List.length_replicate, Int.toNat_natCast]; omega)) [szT31, agT31, unT31, zoT31, byT31, gr, g9]; rfl) ?_)
              refine hK28 _ ?_
              refine AWP.seqk fun K29 hK29 => ?_
              refine AWP.region (AOPS.all (by simp (disch := first | omega | (simp only [List.length_append, List.length_cons, List.length_nil, List.length_set, List.length_replicate, Int.toNat_natCast]; omega)) [szT31, agT31, unT31, zoT31, byT31]; rfl) ?_)
              refine hK29 _ ?_
              refine cond_ok _ (by simp (disch := first | omega | (simp only [List.length_append, List.length_cons, List.length_nil, List.length_set, List.length_replicate, Int.toNat_natCast]; omega)); rfl) (fun h120 => ?_) (fun h120 => ?_)
              · try simp only [decide_eq_true_eq, decide_eq_false_iff_not] at h120
                have ho := hst.out (by omega) (by omega) (by omega) (by omega) (by omega) (by omega) (.inr ⟨by omega, by omega⟩)
                rw [eY] at ho
                refine AWP.exit ?_
                refine J23 _ ?_
                exact ⟨q - 1, by omega, ho.2.2, ho.1, ho.2.1, by simp [g2], by simp [g8], by simp [g9], by simp [g10], by simp [g14], by simp [g15], by simp [g17], by simp [gq], rfl⟩
              · try simp only [decide_eq_true_eq, decide_eq_false_iff_not] at h120
                refine AWP.skip ?_
                refine ⟨(q - 1).toNat, by omega, q - 1, r + Y / 4294967296, rfl, hst, by omega, by simp [g2], by simp [g8], by simp [g9], by simp [g10], by simp [g14], by simp [g15], by simp [g17], by simp, by simp, rfl⟩
            · simp at h113
          · have c1 : decide (4294967296 ≤ q) = false := by simp; omega
            have m1 : q * (Y % 4294967296) ≤ 4294967295 * 4294967295 := Int.mul_le_mul (by omega) (by omega) (by omega) (by omega)
            have m0 : 0 ≤ q * (Y % 4294967296) := Int.mul_nonneg (by omega) (by omega)
            refine AWP.region (AOPS.all (by simp (disch := first | omega | (simp only [List.length_append, List.length_cons, List.length_nil, List.length_set, List.length_replicate, Int.toNat_natCast]; omega)) [szT31, agT31, unT31, zoT31, byT31, gq, gr, g10, g14, c1]; rfl) ?_)
            refine hK26 _ ?_
            refine cond_ok _ (by simp (disch := first | omega | (simp only [List.length_append, List.length_cons, List.length_nil, List.length_set, List.length_replicate, Int.toNat_natCast]; omega)); rfl) (fun h113 => ?_) (fun h113 => ?_)
            · try simp only [decide_eq_true_eq, decide_eq_false_iff_not] at h113
              have hq1 := hD.pos (by omega) (.inr (by omega))
              have hst := hD.step (by omega) (by omega) (by omega) (by omega) (by omega) (.inr (by omega))
              refine AWP.skip ?_
              refine hK25 _ ?_
              refine AWP.block ?_
              refine AWP.seqk fun K30 hK30 => ?_
              refine AWP.region (AOPS.all (by simp (disch := first | omega | (simp only [List.length_append, List.length_cons, List.length_nil, List.length_set, List.length_replicate, Int.toNat_natCast]; omega)) [szT31, agT31, unT31, zoT31, byT31, gq]; rfl) ?_)
              refine hK30 _ ?_
              refine AWP.seqk fun K31 hK31 => ?_
              refine AWP.region (AOPS.all (by simp (disch := first | omega | (simp only [List.length_append, List.length_cons, List.length_nil, List.length_set, List.length_replicate, Int.toNat_natCast]; omega)) [szT31, agT31, unT31, zoT31, byT31, gr, g9]; rfl) ?_)
              refine hK31 _ ?_
              refine AWP.seqk fun K32 hK32 => ?_
              refine AWP.region (AOPS.all (by simp (disch := first | omega | (simp only [List.length_append, List.length_cons, List.length_nil, List.length_set, List.length_replicate, Int.toNat_natCast]; omega)) [szT31, agT31, unT31, zoT31, byT31]; rfl) ?_)
              refine hK32 _ ?_
              refine cond_ok _ (by simp (disch := first | omega | (simp only [List.length_append, List.length_cons, List.length_nil, List.length_set, List.length_replicate, Int.toNat_natCast]; omega)); rfl) (fun h120 => ?_) (fun h120 => ?_)
              · try simp only [decide_eq_true_eq, decide_eq_false_iff_not] at h120
                have ho := hst.out (by omega) (by omega) (by omega) (by omega) (by omega) (by omega) (.inr ⟨by omega, by omega⟩)
                rw [eY] at ho
                refine AWP.exit ?_
                refine J23 _ ?_
                exact ⟨q - 1, by omega, ho.2.2, ho.1, ho.2.1, by simp [g2], by simp [g8], by simp [g9], by simp [g10], by simp [g14], by simp [g15], by simp [g17], by simp [gq], rfl⟩
              · try simp only [decide_eq_true_eq, decide_eq_false_iff_not] at h120
                refine AWP.skip ?_
                refine ⟨(q - 1).toNat, by omega, q - 1, r + Y / 4294967296, rfl, hst, by omega, by simp [g2], by simp [g8], by simp [g9], by simp [g10], by simp [g14], by simp [g15], by simp [g17], by simp, by simp, rfl⟩
            · try simp only [decide_eq_true_eq, decide_eq_false_iff_not] at h113
              have ho := hD.out (by omega) (by omega) (by omega) (by omega) (by omega) (by omega) (.inl ⟨by omega, by omega⟩)
              rw [eY] at ho
              refine AWP.exit ?_
              refine J23 _ ?_
              exact ⟨q, by omega, ho.2.2, ho.1, ho.2.1, by simp [g2], by simp [g8], by simp [g9], by simp [g10], by simp [g14], by simp [g15], by simp [g17], by simp [gq], rfl⟩
        refine AWP.block ?_
        refine AWP.loop (fun n s => ∃ q r : Int, n = q.toNat ∧ DvH (Y / 4294967296) (Y % 4294967296) (U) (X / 4294967296) q r ∧ r < 4294967296 ∧ s.env 2 = .int .u64 Y ∧ s.env 8 = .int .u64 (S : Int) ∧ s.env 9 = .int .u64 (Y / 4294967296) ∧ s.env 10 = .int .u64 (Y % 4294967296) ∧ s.env 11 = .int .u64 U ∧ s.env 13 = .int .u64 (X / 4294967296) ∧ s.env 14 = .int .u64 (X % 4294967296) ∧ s.env 15 = .int .u64 q ∧ s.env 16 = .int .u64 r ∧ s.nt = 135) (((U) / (Y / 4294967296)).toNat) (⟨(U) / (Y / 4294967296), (U) - (U) / (Y / 4294967296) * (Y / 4294967296), rfl, hD0, by omega, by simp, by simp, by simp, by simp, by simp, by simp, by simp, by simp, by simp [w16], rfl⟩) ?_
        rintro n ⟨e, H, m, nt⟩ ⟨q, r, rfl, hD, hr, g2, g8, g9, g10, g11, g13, g14, gq, gr, rfl⟩
        simp only [] at g2 g8 g9 g10 g11 g13 g14 gq gr
        have hr0 := hD.r0
        have hq0 := hD.q0
        have hqm := hD.qm
        refine AWP.seqk fun K33 hK33 => ?_
        refine AWP.seqk fun K34 hK34 => ?_
        by_cases hqB : 4294967296 ≤ q
        · have c1 : decide (4294967296 ≤ q) = true := by simp; omega
          refine AWP.region (AOPS.all (by simp (disch := first | omega | (simp only [List.length_append, List.length_cons, List.length_nil, List.length_set, List.length_replicate, Int.toNat_natCast]; omega)) [szT31, agT31, unT31, zoT31, byT31, gq, c1]; rfl) ?_)
          refine hK34 _ ?_
          refine cond_ok _ (by simp (disch := first | omega | (simp only [List.length_append, List.length_cons, List.length_nil, List.length_set, List.length_replicate, Int.toNat_natCast]; omega)); rfl) (fun h78 => ?_) (fun h78 => ?_)
          · try simp only [decide_eq_true_eq, decide_eq_false_iff_not] at h78
            have hq1 := hD.pos (by omega) (.inl hqB)
            have hst := hD.step (by omega) (by omega) (by omega) (by omega) (by omega) (.inl hqB)
            refine AWP.skip ?_
            refine hK33 _ ?_
            refine AWP.block ?_
            refine AWP.seqk fun K35 hK35 => ?_
            refine AWP.region (AOPS.all (by simp (disch := first | omega | (simp only [List.length_append, List.length_cons, List.length_nil, List.length_set, List.length_replicate, Int.toNat_natCast]; omega)) [szT31, agT31, unT31, zoT31, byT31, gq]; rfl) ?_)
            refine hK35 _ ?_
            refine AWP.seqk fun K36 hK36 => ?_
            refine AWP.region (AOPS.all (by simp (disch := first | omega | (simp only [List.length_append, List.length_cons, List.length_nil, List.length_set, List.length_replicate, Int.toNat_natCast]; omega)) [szT31, agT31, unT31, zoT31, byT31, gr, g9]; rfl) ?_)
            refine hK36 _ ?_
            refine AWP.seqk fun K37 hK37 => ?_
            refine AWP.region (AOPS.all (by simp (disch := first | omega | (simp only [List.length_append, List.length_cons, List.length_nil, List.length_set, List.length_replicate, Int.toNat_natCast]; omega)) [szT31, agT31, unT31, zoT31, byT31]; rfl) ?_)
            refine hK37 _ ?_
            refine cond_ok _ (by simp (disch := first | omega | (simp only [List.length_append, List.length_cons, List.length_nil, List.length_set, List.length_replicate, Int.toNat_natCast]; omega)); rfl) (fun h85 => ?_) (fun h85 => ?_)
            · try simp only [decide_eq_true_eq, decide_eq_false_iff_not] at h85
              have ho := hst.out (by omega) (by omega) (by omega) (by omega) (by omega) (by omega) (.inr ⟨by omega, by omega⟩)
              rw [eY] at ho
              refine AWP.exit ?_
              refine J19 _ ?_
              exact ⟨q - 1, by omega, ho.2.2, ho.1, ho.2.1, by simp [g2], by simp [g8], by simp [g9], by simp [g10], by simp [g11], by simp [g13], by simp [g14], by simp [gq], rfl⟩
            · try simp only [decide_eq_true_eq, decide_eq_false_iff_not] at h85
              refine AWP.skip ?_
              refine ⟨(q - 1).toNat, by omega, q - 1, r + Y / 4294967296, rfl, hst, by omega, by simp [g2], by simp [g8], by simp [g9], by simp [g10], by simp [g11], by simp [g13], by simp [g14], by simp, by simp, rfl⟩
          · simp at h78
        · have c1 : decide (4294967296 ≤ q) = false := by simp; omega
          have m1 : q * (Y % 4294967296) ≤ 4294967295 * 4294967295 := Int.mul_le_mul (by omega) (by omega) (by omega) (by omega)
          have m0 : 0 ≤ q * (Y % 4294967296) := Int.mul_nonneg (by omega) (by omega)
          refine AWP.region (AOPS.all (by simp (disch := first | omega | (simp only [List.length_append, List.length_cons, List.length_nil, List.length_set, List.length_replicate, Int.toNat_natCast]; omega)) [szT31, agT31, unT31, zoT31, byT31, gq, gr, g10, g13, c1]; rfl) ?_)
          refine hK34 _ ?_
          refine cond_ok _ (by simp (disch := first | omega | (simp only [List.length_append, List.length_cons, List.length_nil, List.length_set, List.length_replicate, Int.toNat_natCast]; omega)); rfl) (fun h78 => ?_) (fun h78 => ?_)
          · try simp only [decide_eq_true_eq, decide_eq_false_iff_not] at h78
            have hq1 := hD.pos (by omega) (.inr (by omega))
            have hst := hD.step (by omega) (by omega) (by omega) (by omega) (by omega) (.inr (by omega))
            refine AWP.skip ?_
            refine hK33 _ ?_
            refine AWP.block ?_
            refine AWP.seqk fun K38 hK38 => ?_
            refine AWP.region (AOPS.all (by simp (disch := first | omega | (simp only [List.length_append, List.length_cons, List.length_nil, List.length_set, List.length_replicate, Int.toNat_natCast]; omega)) [szT31, agT31, unT31, zoT31, byT31, gq]; rfl) ?_)
            refine hK38 _ ?_
            refine AWP.seqk fun K39 hK39 => ?_
            refine AWP.region (AOPS.all (by simp (disch := first | omega | (simp only [List.length_append, List.length_cons, List.length_nil, List.length_set, List.length_replicate, Int.toNat_natCast]; omega)) [szT31, agT31, unT31, zoT31, byT31, gr, g9]; rfl) ?_)
            refine hK39 _ ?_
            refine AWP.seqk fun K40 hK40 => ?_
            refine AWP.region (AOPS.all (by simp (disch := first | omega | (simp only [List.length_append, List.length_cons, List.length_nil, List.length_set, List.length_replicate, Int.toNat_natCast]; omega)) [szT31, agT31, unT31, zoT31, byT31]; rfl) ?_)
            refine hK40 _ ?_
            refine cond_ok _ (by simp (disch := first | omega | (simp only [List.length_append, List.length_cons, List.length_nil, List.length_set, List.length_replicate, Int.toNat_natCast]; omega)); rfl) (fun h85 => ?_) (fun h85 => ?_)
            · try simp only [decide_eq_true_eq, decide_eq_false_iff_not] at h85
              have ho := hst.out (by omega) (by omega) (by omega) (by omega) (by omega) (by omega) (.inr ⟨by omega, by omega⟩)
              rw [eY] at ho
              refine AWP.exit ?_
              refine J19 _ ?_
              exact ⟨q - 1, by omega, ho.2.2, ho.1, ho.2.1, by simp [g2], by simp [g8], by simp [g9], by simp [g10], by simp [g11], by simp [g13], by simp [g14], by simp [gq], rfl⟩
            · try simp only [decide_eq_true_eq, decide_eq_false_iff_not] at h85
              refine AWP.skip ?_
              refine ⟨(q - 1).toNat, by omega, q - 1, r + Y / 4294967296, rfl, hst, by omega, by simp [g2], by simp [g8], by simp [g9], by simp [g10], by simp [g11], by simp [g13], by simp [g14], by simp, by simp, rfl⟩
          · try simp only [decide_eq_true_eq, decide_eq_false_iff_not] at h78
            have ho := hD.out (by omega) (by omega) (by omega) (by omega) (by omega) (by omega) (.inl ⟨by omega, by omega⟩)
            rw [eY] at ho
            refine AWP.exit ?_
            refine J19 _ ?_
            exact ⟨q, by omega, ho.2.2, ho.1, ho.2.1, by simp [g2], by simp [g8], by simp [g9], by simp [g10], by simp [g11], by simp [g13], by simp [g14], by simp [gq], rfl⟩

end Go.Proofs.Ytdcggmbnjonemaa

/- Walks: words moved up. -/
namespace Go.Proofs.Ytdcggmbnjonemaa
open Go Go.RowKit
set_option linter.unusedSimpArgs false
set_option linter.unusedVariables false
set_option maxRecDepth 100000
attribute [local simp] List.getElem?_cons_zero List.getElem?_cons_succ List.getElem?_toArray runOps stepOp.eq_def agd.eq_def dstOk.eq_def opVal.eq_def opNew.eq_def opSto.eq_def ev.eq_def cv.eq_def puts_some puts_none upd_ap lst.eq_def aBin.eq_def aUn.eq_def aBi_str aBi_isl aBi_osl aBi_nsl aBi_max aBi_min aBi_max3 aConv.eq_def aLd.eq_def aLoad.eq_def aField.eq_def aFld.eq_def aIdx_isl aIdx_osl aSlc_isl aSlc_osl aSlc_str aSlc_nsl bnd.eq_def evs_nil evs_cons aBuild.eq_def aFill splice.eq_def cells_agg cells_int cells_bool cells_str cells_nil cells_nsl cells_isl cells_osl cells_ptr cells_ip cells_fn cells_Wd one_int one_bool one_str one_nil one_nsl one_isl one_osl one_ptr one_ip one_fn one_Wd aSets hupd_eq hupd_ne wrap_i64s wrap_u64s wrap_u32s wrap_u8s wd_getD wd_set wd_len wd_replicate wd_one wd_fold fz_osl hupd_same aSix.eq_def aEqS.eq_def aEqB_bool aEqB_nsl aEqB_nil

set_option maxHeartbeats 2000000 in
theorem shifted_fo (w : List Int) (k : Nat) (dw : Dig 18446744073709551616 w) (hk : k ≤ 63) (hl : w.length ≤ 274877906944) : FO Try.prog 148 [Wd .u64 w, .int .i64 (k : Int)] 1 (wd .u64 (shW w (2 ^ k))) := by
  have hp1 : (1 : Int) ≤ 2 ^ k := by have := pow2_pos k; omega
  have c64 : (k : Int) ≤ 64 := by omega
  have hmin : min k 64 = k := by omega
  have hmin2 : min (64 - k) 64 = 64 - k := by omega
  have w9 : ((64 : Int) - (k : Int)).toNat = 64 - k := by omega
  have f1 : ∀ x : Int, x.fdiv (2 ^ (64 - k)) = x / 2 ^ (64 - k) := fun x => Int.fdiv_eq_ediv_of_nonneg _ (Int.le_of_lt (pow2_pos _))
  refine FO.body Try.func148 rfl (by simp [idfL, idf, idfLL_iff, idf_Wd']) (wd_pln _ _) 40 rfl fun nx K hK => ?_
  refine AWP.seqk fun K1 hK1 => ?_
  refine AWP.region (AOPS.all (by simp (disch := first | omega | (simp only [List.length_append, List.length_cons, List.length_nil, List.length_set, List.length_replicate, Int.toNat_natCast]; omega)) [idf_Wd']; rfl) ?_)
  refine hK1 _ ?_
  refine AWP.seqk fun K2 hK2 => ?_
  refine AWP.region (AOPS.all (by simp (disch := first | omega | (simp only [List.length_append, List.length_cons, List.length_nil, List.length_set, List.length_replicate, Int.toNat_natCast]; omega)) [szT3, agT3, unT3, zoT3, byT3, szT31, agT31, unT31, zoT31, byT31, szT97, agT97, elT97, unT97, zoT97, byT97, if_pos, len_Wd (P := Try.prog) #[97] rfl elT97, idf_Wd']; rfl) ?_)
  refine hK2 _ ?_
  refine AWP.seqk fun K3 hK3 => ?_
  refine AWP.seqk fun K4 hK4 => ?_
  refine AWP.region (AOPS.all (by simp (disch := first | omega | (simp only [List.length_append, List.length_cons, List.length_nil, List.length_set, List.length_replicate, Int.toNat_natCast]; omega)) [szT31, agT31, unT31, zoT31, byT31, szT97, agT97, elT97, unT97, zoT97, byT97, len_Wd (P := Try.prog) #[97] rfl elT97, idf_Wd']; rfl) ?_)
  refine hK4 _ ?_
  refine AWP.block ?_
  have et0 : ((w.length : Int) + 1).toNat = w.length + 1 := by omega
  have hs0 : List.replicate (w.length + 1) (0 : Int) = shS w (2 ^ k) 0 := by simp [shS, shR, List.replicate_succ]
  refine AWP.loop (fun n s => ∃ i id : Nat, n = w.length - i ∧ i ≤ w.length ∧ s.env 1 = .int .i64 (k : Int) ∧ s.env 5 = .osl id 0 (w.length + 1) ∧ s.env 12 = Wd .u64 w ∧ s.env 13 = .int .i64 (w.length : Int) ∧ s.env 14 = .int .i64 (i : Int) ∧ s.heap id = some (1, wd .u64 (shS w (2 ^ k) i)) ∧ id < s.nx ∧ s.nt = 40) (w.length) (⟨0, nx, by omega, by omega, by simp, by simp [et0], by simp, by simp, by simp, by simp [et0, hs0], by simp, rfl⟩) ?_
  rintro n ⟨e, H, m, nt⟩ ⟨i, id, rfl, hi, h1, h5, h12, h13, h14, hH, hid, rfl⟩
  simp only [] at h1 h5 h12 h13 h14 hH hid
  obtain ⟨r1, r2, r3, r4, r5⟩ := shR_spec dw hp1 i
  have hsl := shS_len dw hp1 hi
  have hsg := shS_gt dw hp1 i
  refine AWP.seqk fun K5 hK5 => ?_
  refine AWP.region (AOPS.all (by simp (disch := first | omega | (simp only [List.length_append, List.length_cons, List.length_nil, List.length_set, List.length_replicate, Int.toNat_natCast]; omega)) [szT3, agT3, unT3, zoT3, byT3, idf_Wd', h13, h14]; rfl) ?_)
  refine hK5 _ ?_
  refine AWP.seqk fun K6 hK6 => ?_
  refine cond_ok _ (by simp (disch := first | omega | (simp only [List.length_append, List.length_cons, List.length_nil, List.length_set, List.length_replicate, Int.toNat_natCast]; omega)); rfl) (fun h15 => ?_) (fun h15 => ?_)
  · try simp only [decide_eq_true_eq, decide_eq_false_iff_not] at h15
    have hi' : i < w.length := by omega
    have gw := dw.gt (by omega) i
    obtain ⟨st1, st2⟩ := sh_step hk gw.1 gw.2 r3 r4
    have m0 : 0 ≤ gt w i * 2 ^ k := Int.mul_nonneg gw.1 (by omega)
    have e1 := shS_step dw hp1 hi'
    have hwm : IntKind.u64.wrap (gt w i * 2 ^ k) = gt w i * 2 ^ k % 18446744073709551616 := wrap_u64m _
    refine AWP.skip ?_
    refine hK6 _ ?_
    refine AWP.seqk fun K7 hK7 => ?_
    refine AWP.block ?_
    refine AWP.seqk fun K8 hK8 => ?_
    refine AWP.region (AOPS.all (by simp (disch := first | omega | (simp only [List.length_append, List.length_cons, List.length_nil, List.length_set, List.length_replicate, Int.toNat_natCast]; omega)) [szT31, agT31, unT31, zoT31, byT31, szT97, agT97, elT97, unT97, zoT97, byT97, idx_WdD (P := Try.prog) elT97 szT31, if_pos, idf_Wd', h12, h14, ld_ip agT31]; rfl) ?_)
    refine hK8 _ ?_
    refine AWP.seqk fun K9 hK9 => ?_
    refine AWP.drawF 9 Try.checked.mixed (by kernel_rfl) (by simp (disch := first | omega | (simp only [List.length_append, List.length_cons, List.length_nil, List.length_set, List.length_replicate, Int.toNat_natCast]; omega)) [runDf.eq_def, runF1, runF2, stepF.eq_def, updo.eq_def, hupo.eq_def, opSto1.eq_def, szT31, agT31, unT31, zoT31, byT31, szT97, agT97, elT97, unT97, zoT97, byT97, idx_WdD (P := Try.prog) elT97 szT31, if_pos, idf_Wd', h1, h5, hH, hsl, hsg, hmin, IntKind.bits, hwm, st1]; rfl) ?_
    refine hK9 _ ?_
    refine AWP.seqk fun K10 hK10 => ?_
    refine AWP.region (AOPS.all (by simp (disch := first | omega | (simp only [List.length_append, List.length_cons, List.length_nil, List.length_set, List.length_replicate, Int.toNat_natCast]; omega)) [szT3, agT3, unT3, zoT3, byT3, idf_Wd', h1]; rfl) ?_)
    refine hK10 _ ?_
    refine cond_ok _ (by simp (disch := first | omega | (simp only [List.length_append, List.length_cons, List.length_nil, List.length_set, List.length_replicate, Int.toNat_natCast]; omega)); rfl) (fun h29 => ?_) (fun h29 => ?_)
    · try simp only [decide_eq_true_eq, decide_eq_false_iff_not] at h29
      refine AWP.region (AOPS.all (by simp (disch := first | omega | (simp only [List.length_append, List.length_cons, List.length_nil, List.length_set, List.length_replicate, Int.toNat_natCast]; omega)) [szT3, agT3, unT3, zoT3, byT3, szT31, agT31, unT31, zoT31, byT31, szT97, agT97, elT97, unT97, zoT97, byT97, idx_WdD (P := Try.prog) elT97 szT31, if_pos, idf_Wd', h1, h5, hsl, w9, hmin2, f1, st2, IntKind.bits]; rfl) ?_)
      refine hK7 _ ?_
      refine AWP.region (AOPS.all (by simp (disch := first | omega | (simp only [List.length_append, List.length_cons, List.length_nil, List.length_set, List.length_replicate, Int.toNat_natCast]; omega)) [szT3, agT3, unT3, zoT3, byT3, idf_Wd', h14]; rfl) ?_)
      refine ⟨w.length - (i + 1), by omega, i + 1, id, rfl, by omega, by simp [h1], by simp [h5], by simp [h12], by simp [h13], by simp (disch := omega) [h14], by simp [← e1], by simp; omega, rfl⟩
    · try simp only [decide_eq_true_eq, decide_eq_false_iff_not] at h29
      have hk0 : k = 0 := by omega
      have e0 := shS_step0 dw hp1 hi' (by rw [← st2]; subst hk0; simp; omega)
      refine AWP.skip ?_
      refine hK7 _ ?_
      refine AWP.region (AOPS.all (by simp (disch := first | omega | (simp only [List.length_append, List.length_cons, List.length_nil, List.length_set, List.length_replicate, Int.toNat_natCast]; omega)) [szT3, agT3, unT3, zoT3, byT3, idf_Wd', h14]; rfl) ?_)
      refine ⟨w.length - (i + 1), by omega, i + 1, id, rfl, by omega, by simp [h1], by simp [h5], by simp [h12], by simp [h13], by simp (disch := omega) [h14], by simp [← e0], by simp; omega, rfl⟩
  · try simp only [decide_eq_true_eq, decide_eq_false_iff_not] at h15
    obtain rfl : i = w.length := by omega
    refine AWP.exit ?_
    refine hK3 _ ?_
    refine AWP.seqk fun K11 hK11 => ?_
    refine AWP.region (AOPS.all (by simp (disch := first | omega | (simp only [List.length_append, List.length_cons, List.length_nil, List.length_set, List.length_replicate, Int.toNat_natCast]; omega)) [idf_Wd', h5]; rfl) ?_)
    refine hK11 _ ?_
    refine AWP.ret ?_
    exact hK _ _ (id) _ _ trivial ((Fin.mk (r := .osl id 0 (w.length + 1)) (by simp [aRes, aResL, aRes1])).cast (by rw [wd_len, shW, hsl])) (by simp [hH, shW])

end Go.Proofs.Ytdcggmbnjonemaa

/- Walks: words trimmed in place. -/
namespace Go.Proofs.Ytdcggmbnjonemaa
open Go Go.RowKit
set_option linter.unusedSimpArgs false
set_option linter.unusedVariables false
set_option maxRecDepth 100000
attribute [local simp] List.getElem?_cons_zero List.getElem?_cons_succ List.getElem?_toArray runOps stepOp.eq_def agd.eq_def dstOk.eq_def opVal.eq_def opNew.eq_def opSto.eq_def ev.eq_def cv.eq_def puts_some puts_none upd_ap lst.eq_def aBin.eq_def aUn.eq_def aBi_str aBi_isl aBi_osl aBi_nsl aBi_max aBi_min aBi_max3 aConv.eq_def aLd.eq_def aLoad.eq_def aField.eq_def aFld.eq_def aIdx_isl aIdx_osl aSlc_isl aSlc_osl aSlc_str aSlc_nsl bnd.eq_def evs_nil evs_cons aBuild.eq_def aFill splice.eq_def cells_agg cells_int cells_bool cells_str cells_nil cells_nsl cells_isl cells_osl cells_ptr cells_ip cells_fn cells_Wd one_int one_bool one_str one_nil one_nsl one_isl one_osl one_ptr one_ip one_fn one_Wd aSets hupd_eq hupd_ne wrap_i64s wrap_u64s wrap_u32s wrap_u8s wd_getD wd_set wd_len wd_replicate wd_one wd_fold fz_osl hupd_same aSix.eq_def aEqS.eq_def aEqB_bool aEqB_nsl aEqB_nil

set_option maxHeartbeats 1000000 in
theorem trim_ac (l : List Int) (id N : Nat) (H : Heap) (nx : Nat) (hH : H id = some (1, wd .u64 l)) (hN : N ≤ l.length) (hl : l.length ≤ 1099511627776) : ACall Try.prog 113 [.osl id 0 N] H nx (fun r H' nx' => r = .osl id 0 (trimW (l.take N)).length ∧ H' = H ∧ nx ≤ nx') := by
  refine ACall.body Try.func113 rfl 21 rfl fun K hK => ?_
  refine AWP.seqk fun K1 hK1 => ?_
  refine AWP.region (AOPS.all (by simp (disch := first | omega | (simp only [List.length_append, List.length_cons, List.length_nil, List.length_set, List.length_replicate, Int.toNat_natCast]; omega)) [idf_Wd']; rfl) ?_)
  refine hK1 _ ?_
  refine AWP.seqk fun K2 hK2 => ?_
  refine AWP.block ?_
  refine AWP.loop (fun n s => ∃ q, n = q ∧ q ≤ N ∧ trimW (l.take q) = trimW (l.take N) ∧ s.env 0 = .osl id 0 q ∧ s.heap = H ∧ nx ≤ s.nx ∧ s.nt = 21) (N) (⟨N, rfl, Nat.le_refl _, rfl, by simp, rfl, by simp, rfl⟩) ?_
  rintro n ⟨e, H2, m, nt⟩ ⟨q, rfl, hq, ht, h0, rfl, hm, rfl⟩
  simp only [] at h0 hm hH
  refine AWP.seqk fun K3 hK3 => ?_
  refine AWP.seqk fun K4 hK4 => ?_
  rcases Nat.eq_zero_or_pos n with rfl | hn0
  · refine AWP.region (AOPS.all (by simp (disch := first | omega | (simp only [List.length_append, List.length_cons, List.length_nil, List.length_set, List.length_replicate, Int.toNat_natCast]; omega)) [szT3, agT3, unT3, zoT3, byT3, szT31, agT31, unT31, zoT31, byT31, szT97, agT97, elT97, unT97, zoT97, byT97, idx_WdD (P := Try.prog) elT97 szT31, if_pos, len_Wd (P := Try.prog) #[97] rfl elT97, idf_Wd', h0, hH]; rfl) ?_)
    refine hK4 _ ?_
    refine cond_ok _ (by simp (disch := first | omega | (simp only [List.length_append, List.length_cons, List.length_nil, List.length_set, List.length_replicate, Int.toNat_natCast]; omega)); rfl) (fun h14 => ?_) (fun h14 => ?_)
    · simp at h14
    · try simp only [decide_eq_true_eq, decide_eq_false_iff_not] at h14
      refine AWP.exit ?_
      refine hK2 _ ?_
      refine AWP.seqk fun K5 hK5 => ?_
      refine AWP.region (AOPS.all (by simp (disch := first | omega | (simp only [List.length_append, List.length_cons, List.length_nil, List.length_set, List.length_replicate, Int.toNat_natCast]; omega)) [idf_Wd', h0]; rfl) ?_)
      refine hK5 _ ?_
      refine AWP.ret ?_
      exact hK _ _ _ _ _ trivial (Fin.mk (r := .osl id 0 (trimW (l.take N)).length) (by simp [aRes, aResL, aRes1, ← ht, trimW])) (⟨rfl, rfl, hm⟩)
  · obtain ⟨k, rfl⟩ : ∃ k, n = k + 1 := ⟨n - 1, by omega⟩
    have htk : l.take (k + 1) = l.take k ++ [gt l k] := take_succ_gt (by omega)
    refine AWP.region (AOPS.all (by simp (disch := first | omega | (simp only [List.length_append, List.length_cons, List.length_nil, List.length_set, List.length_replicate, Int.toNat_natCast]; omega)) [szT3, agT3, unT3, zoT3, byT3, szT31, agT31, unT31, zoT31, byT31, szT97, agT97, elT97, unT97, zoT97, byT97, idx_WdD (P := Try.prog) elT97 szT31, if_pos, len_Wd (P := Try.prog) #[97] rfl elT97, idf_Wd', h0, hH, ld_ip agT31]; rfl) ?_)
    refine hK4 _ ?_
    refine cond_ok _ (by simp (disch := first | omega | (simp only [List.length_append, List.length_cons, List.length_nil, List.length_set, List.length_replicate, Int.toNat_natCast]; omega)); rfl) (fun h14 => ?_) (fun h14 => ?_)
    · try simp only [decide_eq_true_eq, decide_eq_false_iff_not] at h14
      have hx : gt l k = 0 := by simpa using h14
      refine AWP.skip ?_
      refine hK3 _ ?_
      refine AWP.block ?_
      refine AWP.region (AOPS.all (by simp (disch := first | omega | (simp only [List.length_append, List.length_cons, List.length_nil, List.length_set, List.length_replicate, Int.toNat_natCast]; omega)) [szT3, agT3, unT3, zoT3, byT3, szT31, agT31, unT31, zoT31, byT31, szT97, agT97, elT97, unT97, zoT97, byT97, if_pos, len_Wd (P := Try.prog) #[97] rfl elT97, idf_Wd', h0, hH]; rfl) ?_)
      refine ⟨k, by omega, k, rfl, by omega, ?_, by simp, rfl, hm, rfl⟩
      rw [← ht, htk, hx, trimW_concat_zero]
    · try simp only [decide_eq_true_eq, decide_eq_false_iff_not] at h14
      have hx : gt l k ≠ 0 := by simpa using h14
      refine AWP.exit ?_
      refine hK2 _ ?_
      refine AWP.seqk fun K6 hK6 => ?_
      refine AWP.region (AOPS.all (by simp (disch := first | omega | (simp only [List.length_append, List.length_cons, List.length_nil, List.length_set, List.length_replicate, Int.toNat_natCast]; omega)) [idf_Wd', h0]; rfl) ?_)
      refine hK6 _ ?_
      refine AWP.ret ?_
      exact hK _ _ _ _ _ trivial (Fin.mk (r := .osl id 0 (trimW (l.take N)).length) (by simp [aRes, aResL, aRes1, ← ht, htk, trimW_concat_pos _ _ hx]; omega)) (⟨rfl, rfl, hm⟩)

end Go.Proofs.Ytdcggmbnjonemaa

/- Walks: the division of words. -/
namespace Go.Proofs.Ytdcggmbnjonemaa
open Go Go.RowKit
set_option linter.unusedSimpArgs false
set_option linter.unusedVariables false
set_option maxRecDepth 100000
attribute [local simp] List.getElem?_cons_zero List.getElem?_cons_succ List.getElem?_toArray runOps stepOp.eq_def agd.eq_def dstOk.eq_def opVal.eq_def opNew.eq_def opSto.eq_def ev.eq_def cv.eq_def puts_some puts_none upd_ap lst.eq_def aBin.eq_def aUn.eq_def aBi_str aBi_isl aBi_osl aBi_nsl aBi_max aBi_min aBi_max3 aConv.eq_def aLd.eq_def aLoad.eq_def aField.eq_def aFld.eq_def aIdx_isl aIdx_osl aSlc_isl aSlc_osl aSlc_str aSlc_nsl bnd.eq_def evs_nil evs_cons aBuild.eq_def aFill splice.eq_def cells_agg cells_int cells_bool cells_str cells_nil cells_nsl cells_isl cells_osl cells_ptr cells_ip cells_fn cells_Wd one_int one_bool one_str one_nil one_nsl one_isl one_osl one_ptr one_ip one_fn one_Wd aSets hupd_eq hupd_ne wrap_i64s wrap_u64s wrap_u32s wrap_u8s wd_getD wd_set wd_len wd_replicate wd_one wd_fold fz_osl hupd_same aSix.eq_def aEqS.eq_def aEqB_bool aEqB_nsl aEqB_nil

set_option maxHeartbeats 8000000 in
theorem divWords_fc (a d : Nat) (hd : d ≠ 0) (la : (mag (a : Int)).length ≤ 68719476736) (lb : (mag (d : Int)).length ≤ 68719476736) : FC Try.prog 118 [Wd .u64 (mag (a : Int)), Wd .u64 (mag (d : Int))] (.tup [Wd .u64 (mag ((a / d : Nat) : Int)), Wd .u64 (mag ((a % d : Nat) : Int))]) := by
  have da := mag_dig (a : Int)
  have dd := mag_dig (d : Int)
  have hcm := cmpI_mag (a : Int) (d : Int)
  rw [Int.natAbs_natCast, Int.natAbs_natCast] at hcm
  refine FC.body Try.func118 rfl (by simp [idfL, idf, idfLL_iff, idf_Wd']) (by simp [idfL, idf, idfLL_iff, idf_Wd']) 326 rfl fun nx K hK => ?_
  refine AWP.seqk fun K1 hK1 => ?_
  refine AWP.region (AOPS.all (by simp (disch := first | omega | (simp only [List.length_append, List.length_cons, List.length_nil, List.length_set, List.length_replicate, Int.toNat_natCast]; omega)) [idf_Wd']; rfl) ?_)
  refine hK1 _ ?_
  refine AWP.seqk fun K2 hK2 => ?_
  refine AWP.seqk fun K3 hK3 => ?_
  refine AWP.region ?_
  refine AOPS.runk 2 (by simp (disch := first | omega | (simp only [List.length_append, List.length_cons, List.length_nil, List.length_set, List.length_replicate, Int.toNat_natCast]; omega)) [List.take_succ_cons, List.take_zero, szT3, agT3, unT3, zoT3, byT3, idf_Wd']; rfl) ?_
  simp only [List.drop_succ_cons, List.drop_zero]
  refine AOPS.fcall (cmpWords_fc (mag (a : Int)) (mag (d : Int)) (by omega) (by omega)) rfl rfl rfl hb120 (by simp (disch := first | omega | (simp only [List.length_append, List.length_cons, List.length_nil, List.length_set, List.length_replicate, Int.toNat_natCast]; omega)) [idf_Wd', idf_Wd']) (by simp (disch := first | omega | (simp only [List.length_append, List.length_cons, List.length_nil, List.length_set, List.length_replicate, Int.toNat_natCast]; omega))) (by simp) ?_
  simp only [puts_some, updo]
  refine AOPS.all (by simp (disch := first | omega | (simp only [List.length_append, List.length_cons, List.length_nil, List.length_set, List.length_replicate, Int.toNat_natCast]; omega)) [szT3, agT3, unT3, zoT3, byT3, idf_Wd']; rfl) ?_
  refine hK3 _ ?_
  refine cond_ok _ (by simp (disch := first | omega | (simp only [List.length_append, List.length_cons, List.length_nil, List.length_set, List.length_replicate, Int.toNat_natCast]; omega)); rfl) (fun h34 => ?_) (fun h34 => ?_)
  · try simp only [decide_eq_true_eq, decide_eq_false_iff_not] at h34
    have hlt : a < d := hcm.1.1 (by omega)
    refine AWP.seqk fun K4 hK4 => ?_
    refine AWP.region (AOPS.all (by simp (disch := first | omega | (simp only [List.length_append, List.length_cons, List.length_nil, List.length_set, List.length_replicate, Int.toNat_natCast]; omega)) [idf_Wd']; rfl) ?_)
    refine hK4 _ ?_
    refine AWP.ret ?_
    exact hK _ _ _ _ trivial (((Fin.mk (r := .tup [.nsl, Wd .u64 (mag (a : Int))]) (by simp [aRes, aResL, aRes1, idf_Wd'])).weak (r' := .tup [Wd .u64 [], Wd .u64 (mag (a : Int))]) (fun _ _ _ _ h => by
      obtain ⟨vs, rfl, u, r, e, h1, h2⟩ := h
      exact ⟨vs, rfl, u, r, e, nsl_Wd .u64 h1, h2⟩)).cast (by rw [Nat.div_eq_of_lt hlt, Nat.mod_eq_of_lt hlt, show ((0 : Nat) : Int) = 0 from rfl, mag_zero]))
  · try simp only [decide_eq_true_eq, decide_eq_false_iff_not] at h34
    have had : d ≤ a := by
      rcases Nat.lt_or_ge a d with h | h
      · have := hcm.1.2 h; omega
      · exact h
    have hlen : (mag (d : Int)).length ≤ (mag (a : Int)).length := mag_len_mono (by simpa using had)
    have hdl : (mag (d : Int)).length ≠ 0 := by rw [Ne, mag_len0]; omega
    refine AWP.skip ?_
    refine hK2 _ ?_
    refine AWP.seqk fun K5 hK5 => ?_
    refine AWP.region (AOPS.all (by simp (disch := first | omega | (simp only [List.length_append, List.length_cons, List.length_nil, List.length_set, List.length_replicate, Int.toNat_natCast]; omega)) [szT31, agT31, unT31, zoT31, byT31, szT97, agT97, elT97, unT97, zoT97, byT97, len_Wd (P := Try.prog) #[97] rfl elT97, idf_Wd']; rfl) ?_)
    refine hK5 _ ?_
    refine AWP.seqk fun K6 hK6 => ?_
    refine AWP.seqk fun K7 hK7 => ?_
    refine AWP.region (AOPS.all (by simp (disch := first | omega | (simp only [List.length_append, List.length_cons, List.length_nil, List.length_set, List.length_replicate, Int.toNat_natCast]; omega)) [szT3, agT3, unT3, zoT3, byT3, idf_Wd']; rfl) ?_)
    refine hK7 _ ?_
    refine cond_ok _ (by simp (disch := first | omega | (simp only [List.length_append, List.length_cons, List.length_nil, List.length_set, List.length_replicate, Int.toNat_natCast]; omega)); rfl) (fun h39 => ?_) (fun h39 => ?_)
    · try simp only [decide_eq_true_eq, decide_eq_false_iff_not] at h39
      have h1l : (mag (d : Int)).length = 1 := by simp at h39; omega
      have hy := mag_one h1l
      have hyg := dd.gt (by omega) 0
      rw [hy] at hyg
      refine AWP.seqk fun K8 hK8 => ?_
      refine AWP.region (AOPS.all (by simp (disch := first | omega | (simp only [List.length_append, List.length_cons, List.length_nil, List.length_set, List.length_replicate, Int.toNat_natCast]; omega)) [szT31, agT31, unT31, zoT31, byT31, szT97, agT97, elT97, unT97, zoT97, byT97, if_pos, len_Wd (P := Try.prog) #[97] rfl elT97, idf_Wd']; rfl) ?_)
      refine hK8 _ ?_
      refine AWP.seqk fun K9 hK9 => ?_
      refine AWP.seqk fun K10 hK10 => ?_
      refine AWP.region (AOPS.all (by simp (disch := first | omega | (simp only [List.length_append, List.length_cons, List.length_nil, List.length_set, List.length_replicate, Int.toNat_natCast]; omega)) [szT3, agT3, unT3, zoT3, byT3, szT31, agT31, unT31, zoT31, byT31, szT97, agT97, elT97, unT97, zoT97, byT97, len_Wd (P := Try.prog) #[97] rfl elT97, idf_Wd']; rfl) ?_)
      refine hK10 _ ?_
      refine AWP.block ?_
      refine AWP.loop (fun n s => ∃ (i : Nat) (out : List Int) (r : Int), n = i ∧ i ≤ (mag (a : Int)).length ∧ out.length = (mag (a : Int)).length ∧ Dig 18446744073709551616 out ∧ 0 ≤ r ∧ r < d ∧ val 18446744073709551616 ((mag (a : Int)).drop i) = d * val 18446744073709551616 (out.drop i) + r ∧ s.env 0 = Wd .u64 (mag (a : Int)) ∧ s.env 1 = Wd .u64 (mag (d : Int)) ∧ s.env 7 = .osl nx 0 (mag (a : Int)).length ∧ s.env 8 = .int .u64 r ∧ s.env 9 = .int .i64 ((i : Int) - 1) ∧ s.heap nx = some (1, wd .u64 out) ∧ s.nt = 326) ((mag (a : Int)).length) (⟨(mag (a : Int)).length, List.replicate (mag (a : Int)).length 0, 0, rfl, by omega, by simp, Dig.replicate _ (by omega) (by omega), by omega, by omega, by rw [List.drop_of_length_le (by omega), List.drop_of_length_le (by simp)]; simp [val], by simp, by simp, by simp, by simp, by simp, by simp, rfl⟩) ?_
      rintro n ⟨e, H, m, nt⟩ ⟨i, out, r, rfl, hi, ho, dO, hr0, hr, hv, g0, g1, g7, g8, g9, hH, rfl⟩
      simp only [] at g0 g1 g7 g8 g9 hH
      refine AWP.seqk fun K11 hK11 => ?_
      refine AWP.seqk fun K12 hK12 => ?_
      refine AWP.region (AOPS.all (by simp (disch := first | omega | (simp only [List.length_append, List.length_cons, List.length_nil, List.length_set, List.length_replicate, Int.toNat_natCast]; omega)) [szT3, agT3, unT3, zoT3, byT3, idf_Wd', g9]; rfl) ?_)
      refine hK12 _ ?_
      refine cond_ok _ (by simp (disch := first | omega | (simp only [List.length_append, List.length_cons, List.length_nil, List.length_set, List.length_replicate, Int.toNat_natCast]; omega)); rfl) (fun h47 => ?_) (fun h47 => ?_)
      · try simp only [decide_eq_true_eq, decide_eq_false_iff_not] at h47
        obtain ⟨i, rfl⟩ : ∃ k, n = k + 1 := ⟨n - 1, by omega⟩
        have e9 : ((i + 1 : Nat) : Int) - 1 = i := by omega
        rw [e9] at g9
        have ga := da.gt (by omega) i
        have st := div1_step da dO (by omega) hr0 hr hv
        refine AWP.skip ?_
        refine hK11 _ ?_
        refine AWP.seqk fun K13 hK13 => ?_
        refine AWP.block ?_
        refine AWP.old fun hold => ?_
        refine AWP.draw 15 Try.checked.mixed (by kernel_rfl) (by simp) ?_
        simp only [List.take_succ_cons, List.take_zero, List.drop_succ_cons, List.drop_zero]
        refine DP.runFk 10 (by simp (disch := first | omega | (simp only [List.length_append, List.length_cons, List.length_nil, List.length_set, List.length_replicate, Int.toNat_natCast]; omega)) [runDf.eq_def, runF1, runF2, stepF.eq_def, updo.eq_def, hupo.eq_def, opSto1.eq_def, List.take_succ_cons, List.take_zero, szT31, agT31, unT31, zoT31, byT31, szT97, agT97, elT97, unT97, zoT97, byT97, idx_WdD (P := Try.prog) elT97 szT31, if_pos, idf_Wd', g0, g1, g7, g8, g9, hH, ho, hy, h1l, ld_ip agT31]; rfl) fun fs14 hfs14 => ?_
        replace hfs14 : fs14.length = 10 := hfs14.trans rfl
        simp only [List.drop_succ_cons, List.drop_zero]
        refine DP.fcall (div64_fc (hi := r) (lo := gt (mag (a : Int)) i) (y0 := d) hr0 hr ga.1 ga.2 (by omega)) rfl rfl rfl hb147 (by simp (disch := first | omega | (simp only [List.length_append, List.length_cons, List.length_nil, List.length_set, List.length_replicate, Int.toNat_natCast]; omega)) [idf_Wd', g0, g1, g7, g8, g9, hH, ho, hy, h1l, ld_ip agT31, idf_Wd']) (by simp (disch := first | omega | (simp only [List.length_append, List.length_cons, List.length_nil, List.length_set, List.length_replicate, Int.toNat_natCast]; omega)) [g0, g1, g7, g8, g9, hH, ho, hy, h1l, ld_ip agT31]) (by simp) ?_
        simp only [updo]
        refine DP.runFk 2 (by simp (disch := first | omega | (simp only [List.length_append, List.length_cons, List.length_nil, List.length_set, List.length_replicate, Int.toNat_natCast]; omega)) [runDf.eq_def, runF1, runF2, stepF.eq_def, updo.eq_def, hupo.eq_def, opSto1.eq_def, List.take_succ_cons, List.take_zero, szT31, agT31, unT31, zoT31, byT31, szT97, agT97, elT97, unT97, zoT97, byT97, idx_WdD (P := Try.prog) elT97 szT31, if_pos, idf_Wd', g0, g1, g7, g8, g9, hH, ho, hy, h1l, ld_ip agT31]; rfl) fun fs15 hfs15 => ?_
        replace hfs15 : fs15.length = 2 := hfs15.trans rfl
        simp only [List.drop_succ_cons, List.drop_zero]
        refine DP.runF1q (by simp (disch := first | omega | (simp only [List.length_append, List.length_cons, List.length_nil, List.length_set, List.length_replicate, Int.toNat_natCast]; omega)) [runDf.eq_def, runF1, runF2, stepF.eq_def, updo.eq_def, hupo.eq_def, opSto1.eq_def, szT31, agT31, unT31, zoT31, byT31, szT97, agT97, elT97, unT97, zoT97, byT97, idx_WdD (P := Try.prog) elT97 szT31, if_pos, idf_Wd', g0, g1, g7, g8, g9, hH, ho, hy, h1l, ld_ip agT31]; rfl) fun fq16 hfq16 => ?_
        replace hfq16 : fq16.q = [] := by rw [hfq16]; simp [qids, Op.operands, topId]
        simp only [updo]
        refine DP.runFk 1 (by simp (disch := first | omega | (simp only [List.length_append, List.length_cons, List.length_nil, List.length_set, List.length_replicate, Int.toNat_natCast]; omega)) [runDf.eq_def, runF1, runF2, stepF.eq_def, updo.eq_def, hupo.eq_def, opSto1.eq_def, List.take_succ_cons, List.take_zero, szT31, agT31, unT31, zoT31, byT31, szT97, agT97, elT97, unT97, zoT97, byT97, idx_WdD (P := Try.prog) elT97 szT31, if_pos, idf_Wd', g0, g1, g7, g8, g9, hH, ho, hy, h1l, ld_ip agT31]; rfl) fun fs17 hfs17 => ?_
        replace hfs17 : fs17.length = 1 := hfs17.trans rfl
        simp only [List.drop_succ_cons, List.drop_zero]
        refine DQ.runG (m := 15) [13] (by simp only [List.length_append, List.length_cons, List.length_nil, hfs14, hfs15, hfs17]; omega) (by intro k f hk hex; simp only [List.mem_cons, List.not_mem_nil, or_false] at hex; rcases hex with rfl <;> (simp [List.getElem?_append, hfs14, hfs15, hfs17] at hk; subst hk; assumption)) _ _ _ (fun id q h j hj => by have := hold id q h; simp at hj; omega) (by kernel_rfl) rfl (by simp (disch := first | omega | (simp only [List.length_append, List.length_cons, List.length_nil, List.length_set, List.length_replicate, Int.toNat_natCast]; omega)) [runDf.eq_def, runF1, runF2, stepF.eq_def, updo.eq_def, hupo.eq_def, opSto1.eq_def, szT31, agT31, unT31, zoT31, byT31, szT97, agT97, elT97, unT97, zoT97, byT97, idx_WdD (P := Try.prog) elT97 szT31, if_pos, idf_Wd', g0, g1, g7, g8, g9, hH, ho, hy, h1l, ld_ip agT31]; rfl) ?_
        refine hK13 _ ?_
        refine AWP.region (AOPS.all (by simp (disch := first | omega | (simp only [List.length_append, List.length_cons, List.length_nil, List.length_set, List.length_replicate, Int.toNat_natCast]; omega)) [szT3, agT3, unT3, zoT3, byT3, idf_Wd', g9]; rfl) ?_)
        refine ⟨i, by omega, i, out.set i ((r * 18446744073709551616 + gt (mag (a : Int)) i) / d), (r * 18446744073709551616 + gt (mag (a : Int)) i) % d, rfl, by omega, by simp [ho], dO.set _ st.1 st.2.1, st.2.2.1, st.2.2.2.1, st.2.2.2.2, by simp [g0], by simp [g1], by simp [g7], by simp, by simp [g9], by simp, rfl⟩
      · try simp only [decide_eq_true_eq, decide_eq_false_iff_not] at h47
        obtain rfl : n = 0 := by omega
        obtain ⟨f1, f2⟩ := div1_fin hr0 hr hv
        have hr1 : Dig 18446744073709551616 [r] := Dig.cons hr0 (by omega) (Dig.nil _)
        have t1 : trimW out = mag ((a / d : Nat) : Int) := by rw [mag_of dO, f1]
        have t2 : trimW [r] = mag ((a % d : Nat) : Int) := by rw [mag_of hr1]; simp only [val, Int.mul_zero, Int.add_zero]; rw [f2]
        refine AWP.exit ?_
        refine hK9 _ ?_
        refine AWP.seqk fun K18 hK18 => ?_
        refine AWP.region ?_
        refine AOPS.runk 1 (by simp (disch := first | omega | (simp only [List.length_append, List.length_cons, List.length_nil, List.length_set, List.length_replicate, Int.toNat_natCast]; omega)) [List.take_succ_cons, List.take_zero, szT31, agT31, unT31, zoT31, byT31, szT97, agT97, elT97, unT97, zoT97, byT97, idf_Wd', g7, g8]; rfl) ?_
        simp only [List.drop_succ_cons, List.drop_zero]
        refine AOPS.frz1 65 nx 1 (wd .u64 out) (Wd .u64 out) (by simp [hH]) (by simp [g7, ← ho]; first | exact fz_wd rfl | exact isl_take_wd (Nat.le_refl _)) ?_
        refine AOPS.fcall (trim_fc out (by omega)) rfl rfl rfl hb113 (by simp (disch := first | omega | (simp only [List.length_append, List.length_cons, List.length_nil, List.length_set, List.length_replicate, Int.toNat_natCast]; omega)) [idf_Wd', g7, g8, idf_Wd']) (by simp (disch := first | omega | (simp only [List.length_append, List.length_cons, List.length_nil, List.length_set, List.length_replicate, Int.toNat_natCast]; omega)) [g7, g8]) (by simp) ?_
        simp only [puts_some, updo]
        refine AOPS.runk 2 (by simp (disch := first | omega | (simp only [List.length_append, List.length_cons, List.length_nil, List.length_set, List.length_replicate, Int.toNat_natCast]; omega)) [List.take_succ_cons, List.take_zero, szT31, agT31, unT31, zoT31, byT31, szT97, agT97, elT97, unT97, zoT97, byT97, idf_Wd', g7, g8]; rfl) ?_
        simp only [List.drop_succ_cons, List.drop_zero]
        refine AOPS.frz1 68 m 1 (wd .u64 [r]) (Wd .u64 [r]) (by simp) (by simp; first | exact fz_wd rfl | exact isl_take_wd (by simp)) ?_
        refine AOPS.fcall (trim_fc [r] (by simp)) rfl rfl rfl hb113 (by simp (disch := first | omega | (simp only [List.length_append, List.length_cons, List.length_nil, List.length_set, List.length_replicate, Int.toNat_natCast]; omega)) [idf_Wd', g7, g8, idf_Wd']) (by simp (disch := first | omega | (simp only [List.length_append, List.length_cons, List.length_nil, List.length_set, List.length_replicate, Int.toNat_natCast]; omega)) [g7, g8]) (by simp) ?_
        simp only [puts_some, updo]
        refine AOPS.all (by simp (disch := first | omega | (simp only [List.length_append, List.length_cons, List.length_nil, List.length_set, List.length_replicate, Int.toNat_natCast]; omega)) [szT31, agT31, unT31, zoT31, byT31, szT97, agT97, elT97, unT97, zoT97, byT97, idf_Wd', g7, g8]; rfl) ?_
        refine hK18 _ ?_
        refine AWP.ret ?_
        exact hK _ _ _ _ trivial ((Fin.mk (r := .tup [Wd .u64 (trimW out), Wd .u64 (trimW [r])]) (by simp [aRes, aResL, aRes1, idf_Wd'])).cast (by rw [t1, t2]))
    · try simp only [decide_eq_true_eq, decide_eq_false_iff_not] at h39
      have h1l : (mag (d : Int)).length ≠ 1 := by simp at h39; omega
      obtain ⟨m, hm⟩ : ∃ m, (mag (d : Int)).length = m + 2 := ⟨(mag (d : Int)).length - 2, by omega⟩
      obtain ⟨t, k, p, Vl, ht, htB, hbl, hk, rfl, hp0, hVl, dV, lV, vV, tV, hVB, _, hK0⟩ := dw_init had hm
      obtain ⟨J, hJ⟩ : ∃ J, (mag (a : Int)).length = J + (m + 2) := ⟨(mag (a : Int)).length - (m + 2), by omega⟩
      rw [hJ, Nat.add_sub_cancel] at hK0
      obtain ⟨n, hn⟩ : ∃ n, n = m + 2 := ⟨_, rfl⟩
      have hp1 : (1 : Int) ≤ 2 ^ k := by omega
      have hsa := shS_len da hp1 (Nat.le_refl (mag (a : Int)).length)
      have hsd := shS_len dd hp1 (Nat.le_refl (mag (d : Int)).length)
      have hsa' : (shW (mag (a : Int)) (2 ^ k)).length = J + n + 1 := by unfold shW; omega
      have hsd' : (shW (mag (d : Int)) (2 ^ k)).length = n + 1 := by unfold shW; omega
      have x4 : TN (((n : Int) - 1).toNat) (m + 1) := TN.i (by omega)
      have x5 : TN (((n : Int) - 2).toNat) (m) := TN.i (by omega)
      have hdn : (mag (d : Int)).length = n := by omega
      have han : (mag (a : Int)).length = J + n := by omega
      have eJ : ((J + n : Nat) : Int) - (n : Int) = J := by omega
      have eJ2 : (J : Int) + (n : Int) - (n : Int) = J := by omega
      have eJ3 : TN (((J : Int) + 1).toNat) (J + 1) := TN.i (by omega)
      have wb : (64 : Int) - (bitLen t : Int) = k := by omega
      rw [← hn] at lV
      have hPm := powB_pos m
      have c64 : (k : Int) ≤ 64 := by omega
      have hmk : TN (min k 64) (k) := TN.i (by omega)
      have hmk2 : TN (min (64 - k) 64) (64 - k) := TN.i (by omega)
      have fdk : ∀ x : Int, x.fdiv (2 ^ k) = x / 2 ^ k := fun x => Int.fdiv_eq_ediv_of_nonneg _ (Int.le_of_lt hp0)
      refine AWP.skip ?_
      refine hK6 _ ?_
      refine AWP.seqk fun K19 hK19 => ?_
      refine AWP.region ?_
      refine AOPS.runk 5 (by simp (disch := first | omega | (simp only [List.length_append, List.length_cons, List.length_nil, List.length_set, List.length_replicate, Int.toNat_natCast]; omega)) [List.take_succ_cons, List.take_zero, szT3, agT3, unT3, zoT3, byT3, szT31, agT31, unT31, zoT31, byT31, szT97, agT97, elT97, unT97, zoT97, byT97, idx_WdD (P := Try.prog) elT97 szT31, if_pos, idf_Wd', hdn, x4.e, ht, wb, ld_ip agT31]; rfl) ?_
      simp only [List.drop_succ_cons, List.drop_zero]
      refine AOPS.fcall (lz64_fc t htB) rfl rfl rfl hb146 (by simp (disch := first | omega | (simp only [List.length_append, List.length_cons, List.length_nil, List.length_set, List.length_replicate, Int.toNat_natCast]; omega)) [idf_Wd', hdn, x4.e, ht, wb, ld_ip agT31, idf_Wd']) (by simp (disch := first | omega | (simp only [List.length_append, List.length_cons, List.length_nil, List.length_set, List.length_replicate, Int.toNat_natCast]; omega)) [hdn, x4.e, ht, wb, ld_ip agT31]) (by simp) ?_
      simp only [puts_some, updo]
      refine AOPS.all (by simp (disch := first | omega | (simp only [List.length_append, List.length_cons, List.length_nil, List.length_set, List.length_replicate, Int.toNat_natCast]; omega)) [szT3, agT3, unT3, zoT3, byT3, szT31, agT31, unT31, zoT31, byT31, szT97, agT97, elT97, unT97, zoT97, byT97, idx_WdD (P := Try.prog) elT97 szT31, if_pos, idf_Wd', hdn, x4.e, ht, wb, ld_ip agT31]; rfl) ?_
      refine hK19 _ ?_
      refine AWP.seqk fun K20 hK20 => ?_
      refine AWP.draw 8 Try.checked.mixed (by kernel_rfl) (by simp) ?_
      simp only [List.take_succ_cons, List.take_zero, List.drop_succ_cons, List.drop_zero]
      refine DP.runFk 2 (by simp (disch := first | omega | (simp only [List.length_append, List.length_cons, List.length_nil, List.length_set, List.length_replicate, Int.toNat_natCast]; omega)) [runDf.eq_def, runF1, runF2, stepF.eq_def, updo.eq_def, hupo.eq_def, opSto1.eq_def, List.take_succ_cons, List.take_zero, szT31, agT31, unT31, zoT31, byT31, szT97, agT97, elT97, unT97, zoT97, byT97, if_pos, idf_Wd', hsa', hsd', wd_len]; rfl) fun fs21 hfs21 => ?_
      replace hfs21 : fs21.length = 2 := hfs21.trans rfl
      simp only [List.drop_succ_cons, List.drop_zero]
      refine DP.ocall (shifted_fo (mag (d : Int)) k dd hk (by omega)) rfl rfl rfl hb148 (by simp (disch := first | omega | (simp only [List.length_append, List.length_cons, List.length_nil, List.length_set, List.length_replicate, Int.toNat_natCast]; omega)) [idf_Wd', hsa', hsd', wd_len, idf_Wd']) (by simp (disch := first | omega | (simp only [List.length_append, List.length_cons, List.length_nil, List.length_set, List.length_replicate, Int.toNat_natCast]; omega)) [hsa', hsd', wd_len]) (by simp) ?_
      simp only [updo]
      refine DP.runFk 4 (by simp (disch := first | omega | (simp only [List.length_append, List.length_cons, List.length_nil, List.length_set, List.length_replicate, Int.toNat_natCast]; omega)) [runDf.eq_def, runF1, runF2, stepF.eq_def, updo.eq_def, hupo.eq_def, opSto1.eq_def, List.take_succ_cons, List.take_zero, szT31, agT31, unT31, zoT31, byT31, szT97, agT97, elT97, unT97, zoT97, byT97, if_pos, idf_Wd', hsa', hsd', wd_len]; rfl) fun fs22 hfs22 => ?_
      replace hfs22 : fs22.length = 4 := hfs22.trans rfl
      simp only [List.drop_succ_cons, List.drop_zero]
      refine DP.ocall (shifted_fo (mag (a : Int)) k da hk (by omega)) rfl rfl rfl hb148 (by simp (disch := first | omega | (simp only [List.length_append, List.length_cons, List.length_nil, List.length_set, List.length_replicate, Int.toNat_natCast]; omega)) [idf_Wd', hsa', hsd', wd_len, idf_Wd']) (by simp (disch := first | omega | (simp only [List.length_append, List.length_cons, List.length_nil, List.length_set, List.length_replicate, Int.toNat_natCast]; omega)) [hsa', hsd', wd_len]) (by simp) ?_
      simp only [updo]
      refine DQ.runF (m := 8) (by simp only [List.length_append, List.length_cons, List.length_nil, hfs21, hfs22]; omega) _ _ _ (by kernel_rfl) rfl (by simp (disch := first | omega | (simp only [List.length_append, List.length_cons, List.length_nil, List.length_set, List.length_replicate, Int.toNat_natCast]; omega)) [runDf.eq_def, runF1, runF2, stepF.eq_def, updo.eq_def, hupo.eq_def, opSto1.eq_def, szT31, agT31, unT31, zoT31, byT31, szT97, agT97, elT97, unT97, zoT97, byT97, if_pos, idf_Wd', hsa', hsd', wd_len]; rfl) ?_
      refine hK20 _ ?_
      refine AWP.seqk fun K23 hK23 => ?_
      refine AWP.frz1 11 (nx + 2) 1 (wd .u64 (shW (mag (d : Int)) (2 ^ k))) (Wd .u64 Vl) (by simp (disch := omega)) (by simp; rw [fz_wdt (by omega), hVl, hn]) ?_
      refine AWP.region (AOPS.all (by simp (disch := first | omega | (simp only [List.length_append, List.length_cons, List.length_nil, List.length_set, List.length_replicate, Int.toNat_natCast]; omega)) [szT3, agT3, unT3, zoT3, byT3, szT31, agT31, unT31, zoT31, byT31, szT97, agT97, elT97, unT97, zoT97, byT97, if_pos, len_Wd (P := Try.prog) #[97] rfl elT97, idf_Wd', han, eJ, eJ2]; rfl) ?_)
      refine hK23 _ ?_
      refine AWP.seqk fun K24 hK24 => ?_
      refine AWP.seqk fun K25 hK25 => ?_
      refine AWP.region (AOPS.all (by simp (disch := first | omega | (simp only [List.length_append, List.length_cons, List.length_nil, List.length_set, List.length_replicate, Int.toNat_natCast]; omega)) [szT3, agT3, unT3, zoT3, byT3, szT31, agT31, unT31, zoT31, byT31, szT97, agT97, elT97, unT97, zoT97, byT97, len_Wd (P := Try.prog) #[97] rfl elT97, idf_Wd', han, eJ, eJ2]; rfl) ?_)
      refine hK25 _ ?_
      refine AWP.block ?_
      obtain ⟨iu, hiu⟩ : ∃ iu, iu = nx + 7 := ⟨_, rfl⟩
      obtain ⟨io, hio⟩ : ∃ io, io = nx + 10 := ⟨_, rfl⟩
      have hne : iu ≠ io := by omega
      refine AWP.loop (fun N s => ∃ (j : Nat) (u out : List Int), N = j ∧ j ≤ J + 1 ∧ Kn ((a : Int) * 2 ^ k) ((d : Int) * 2 ^ k) u out j ∧ u.length = J + n + 1 ∧ out.length = J + 1 ∧ s.env 6 = .int .i64 (n : Int) ∧ s.env 10 = .int .i64 (k : Int) ∧ s.env 11 = Wd .u64 Vl ∧ s.env 12 = .osl iu 0 (J + n + 1) ∧ s.env 13 = .osl io 0 (J + 1) ∧ s.env 14 = .int .i64 ((j : Int) - 1) ∧ s.heap iu = some (1, wd .u64 u) ∧ s.heap io = some (1, wd .u64 out) ∧ s.nt = 326) (J + 1) (⟨J + 1, shW (mag (a : Int)) (2 ^ k), List.replicate (J + 1) 0, rfl, by omega, hK0, hsa', by simp, by simp, by simp, by simp, by simp (disch := omega) [hiu, hsa', wd_len], by simp (disch := omega) [hio, eJ3.e], by simp, by simp (disch := omega) [hiu], by simp (disch := omega) [hio, eJ3.e], rfl⟩) ?_
      clear hcm h34 had hlen hdl h39 h1l hm ht htB hbl tV hJ hsa hsd hsa' hsd' eJ eJ2 eJ3 wb hK0 lb hdn
      rintro N ⟨e, H, mm, nt⟩ ⟨j, u, out, rfl, hj, hKn, hul, hol, h6, h10, h11, h12, h13, h14, hU, hO, rfl⟩
      simp only [] at h6 h10 h11 h12 h13 h14 hU hO
      refine AWP.seqk fun K26 hK26 => ?_
      refine AWP.seqk fun K27 hK27 => ?_
      refine AWP.region (AOPS.all (by simp (disch := first | omega | (simp only [List.length_append, List.length_cons, List.length_nil, List.length_set, List.length_replicate, Int.toNat_natCast]; omega)) [szT3, agT3, unT3, zoT3, byT3, idf_Wd', h14]; rfl) ?_)
      refine hK27 _ ?_
      refine cond_ok _ (by simp (disch := first | omega | (simp only [List.length_append, List.length_cons, List.length_nil, List.length_set, List.length_replicate, Int.toNat_natCast]; omega)); rfl) (fun h95 => ?_) (fun h95 => ?_)
      · try simp only [decide_eq_true_eq, decide_eq_false_iff_not] at h95
        obtain ⟨j, rfl⟩ : ∃ k, N = k + 1 := ⟨N - 1, by omega⟩
        have e14 : ((j + 1 : Nat) : Int) - 1 = j := by omega
        rw [e14] at h14
        have hz := hKn.top (n := n) (by rw [hn]; exact hVB)
        have hw := win_lt hKn.dig (j := j) (m := m) (by rw [← hn]; exact hz)
        have hwd := hKn.wide
        have tg := top_ge dV (m := m)
        rw [vV] at tg
        have g1 := hKn.dig.gt (by omega) (j + m + 2)
        have g2 := hKn.dig.gt (by omega) (j + m + 1)
        have g3 := hKn.dig.gt (by omega) (j + m)
        have gv1 := dV.gt (by omega) (m + 1)
        have gv2 := dV.gt (by omega) m
        have x1 : TN (((j : Int) + (n : Int)).toNat) (j + m + 2) := TN.i (by omega)
        have x2 : TN (((j : Int) + (n : Int) - 1).toNat) (j + m + 1) := TN.i (by omega)
        have x3 : TN (((j : Int) + (n : Int) - 2).toNat) (j + m) := TN.i (by omega)
        have x7 : TN (((j : Int) + (n : Int)).toNat) (j + n) := TN.i (by omega)
        have hjo : j < J + 1 := by omega
        have hW0 := val_nonneg (hKn.dig.drop j)
        refine AWP.skip ?_
        refine hK26 _ ?_
        refine AWP.seqk fun K28 hK28 => ?_
        refine AWP.block ?_
        refine AWP.seqk fun K29 hK29 => ?_
        refine AWP.region (AOPS.all (by simp (disch := first | omega | (simp only [List.length_append, List.length_cons, List.length_nil, List.length_set, List.length_replicate, Int.toNat_natCast]; omega)) [idf_Wd']; rfl) ?_)
        refine hK29 _ ?_
        refine AWP.seqk fun K30 hK30 => ?_
        have J30 : ∀ s : St, (∃ q : Int, 0 ≤ q ∧ q < 18446744073709551616 ∧ val 18446744073709551616 (u.drop j) < (q + 1) * ((d : Int) * 2 ^ k) ∧ s.env 6 = .int .i64 (n : Int) ∧ s.env 10 = .int .i64 (k : Int) ∧ s.env 11 = Wd .u64 Vl ∧ s.env 12 = .osl iu 0 (J + n + 1) ∧ s.env 13 = .osl io 0 (J + 1) ∧ s.env 14 = .int .i64 (j : Int) ∧ s.env 15 = .int .u64 q ∧ s.heap iu = some (1, wd .u64 u) ∧ s.heap io = some (1, wd .u64 out) ∧ s.nt = 326) → K30 s := by
          clear h6 h10 h11 h12 h13 h14 hU hO hw hwd tg g1 g2 g3 gv1 gv2
          rintro ⟨e, H, mm, nt⟩ ⟨q, q0, qB, qlt, h6, h10, h11, h12, h13, h14, h15, hU, hO, rfl⟩
          simp only [] at h6 h10 h11 h12 h13 h14 h15 hU hO
          refine hK30 _ ?_
          refine AWP.seqk fun K31 hK31 => ?_
          refine AWP.region (AOPS.all (by simp (disch := first | omega | (simp only [List.length_append, List.length_cons, List.length_nil, List.length_set, List.length_replicate, Int.toNat_natCast]; omega)) [idf_Wd']; rfl) ?_)
          refine hK31 _ ?_
          refine AWP.seqk fun K32 hK32 => ?_
          refine AWP.seqk fun K33 hK33 => ?_
          refine AWP.region (AOPS.all (by simp (disch := first | omega | (simp only [List.length_append, List.length_cons, List.length_nil, List.length_set, List.length_replicate, Int.toNat_natCast]; omega)) [idf_Wd', h6]; rfl) ?_)
          refine hK33 _ ?_
          refine AWP.block ?_
          refine AWP.loop (fun N s => ∃ (i : Nat) (u1 : List Int) (br c : Int), N = n - i ∧ i ≤ n ∧ Win u u1 j n (-(q * val 18446744073709551616 (Vl.take i)) + (18446744073709551616 : Int) ^ i * (br + c)) ∧ 0 ≤ br ∧ br ≤ 1 ∧ 0 ≤ c ∧ c < 18446744073709551616 ∧ s.env 6 = .int .i64 (n : Int) ∧ s.env 10 = .int .i64 (k : Int) ∧ s.env 11 = Wd .u64 Vl ∧ s.env 12 = .osl iu 0 (J + n + 1) ∧ s.env 13 = .osl io 0 (J + 1) ∧ s.env 14 = .int .i64 (j : Int) ∧ s.env 15 = .int .u64 q ∧ s.env 20 = .int .u64 br ∧ s.env 21 = .int .u64 c ∧ s.env 175 = .int .i64 (n : Int) ∧ s.env 176 = .int .i64 (i : Int) ∧ s.heap iu = some (1, wd .u64 u1) ∧ s.heap io = some (1, wd .u64 out) ∧ s.nt = 326) (n) (⟨0, u, 0, 0, by omega, by omega, (Win.refl hKn.dig j n).cast (by simp [val]), by omega, by omega, by omega, by omega, by simp [h6], by simp [h10], by simp [h11], by simp [h12], by simp [h13], by simp [h14], by simp [h15], by simp, by simp, by simp, by simp, by simp (disch := omega) [hU], by simp (disch := omega) [hO], rfl⟩) ?_
          clear h6 h10 h11 h12 h13 h14 h15 hU hO
          rintro N ⟨e, H, mm, nt⟩ ⟨i, u1, br, c, rfl, hi, w, br0, br1, c0, cB, h6, h10, h11, h12, h13, h14, h15, h20, h21, h175, h176, hU, hO, rfl⟩
          simp only [] at h6 h10 h11 h12 h13 h14 h15 h20 h21 h175 h176 hU hO
          have hu1 : u1.length = J + n + 1 := w.len.trans hul
          refine AWP.seqk fun K34 hK34 => ?_
          refine AWP.region (AOPS.all (by simp (disch := first | omega | (simp only [List.length_append, List.length_cons, List.length_nil, List.length_set, List.length_replicate, Int.toNat_natCast]; omega)) [szT3, agT3, unT3, zoT3, byT3, idf_Wd', h175, h176]; rfl) ?_)
          refine hK34 _ ?_
          refine AWP.seqk fun K35 hK35 => ?_
          refine cond_ok _ (by simp (disch := first | omega | (simp only [List.length_append, List.length_cons, List.length_nil, List.length_set, List.length_replicate, Int.toNat_natCast]; omega)); rfl) (fun h177 => ?_) (fun h177 => ?_)
          · try simp only [decide_eq_true_eq, decide_eq_false_iff_not] at h177
            have hi' : i < n := by omega
            have ws := win_sub w hi (by omega) dV q0 qB br0 br1 c0 cB
            have gvi := dV.gt (by omega) i
            have gui := w.dig.gt (by omega) (j + i)
            have x6 : TN (((j : Int) + (i : Int)).toNat) (j + i) := TN.i (by omega)
            have wm0 := ws.1
            have wm1 := ws.2.1
            have wm2 := ws.2.2.1
            refine AWP.skip ?_
            refine hK35 _ ?_
            refine AWP.seqk fun K36 hK36 => ?_
            refine AWP.block ?_
            refine AWP.seqk fun K37 hK37 => ?_
            refine AWP.region (AOPS.all (by simp (disch := first | omega | (simp only [List.length_append, List.length_cons, List.length_nil, List.length_set, List.length_replicate, Int.toNat_natCast]; omega)) [idf_Wd', h176]; rfl) ?_)
            refine hK37 _ ?_
            refine AWP.seqk fun K38 hK38 => ?_
            refine AWP.region ?_
            refine AOPS.runk 5 (by simp (disch := first | omega | (simp only [List.length_append, List.length_cons, List.length_nil, List.length_set, List.length_replicate, Int.toNat_natCast]; omega)) [List.take_succ_cons, List.take_zero, szT31, agT31, unT31, zoT31, byT31, szT97, agT97, elT97, unT97, zoT97, byT97, idx_WdD (P := Try.prog) elT97 szT31, if_pos, idf_Wd', h11, h15, lV, ld_ip agT31]; rfl) ?_
            simp only [List.drop_succ_cons, List.drop_zero]
            refine AOPS.fcall (mul64_fc q (gt Vl i) q0 qB gvi.1 gvi.2) rfl rfl rfl hb116 (by simp (disch := first | omega | (simp only [List.length_append, List.length_cons, List.length_nil, List.length_set, List.length_replicate, Int.toNat_natCast]; omega)) [idf_Wd', h11, h15, lV, ld_ip agT31, idf_Wd']) (by simp (disch := first | omega | (simp only [List.length_append, List.length_cons, List.length_nil, List.length_set, List.length_replicate, Int.toNat_natCast]; omega)) [h11, h15, lV, ld_ip agT31]) (by simp) ?_
            simp only [puts_some, updo]
            refine AOPS.all (by simp (disch := first | omega | (simp only [List.length_append, List.length_cons, List.length_nil, List.length_set, List.length_replicate, Int.toNat_natCast]; omega)) [szT31, agT31, unT31, zoT31, byT31, szT97, agT97, elT97, unT97, zoT97, byT97, idx_WdD (P := Try.prog) elT97 szT31, if_pos, idf_Wd', h11, h15, lV, ld_ip agT31]; rfl) ?_
            refine hK38 _ ?_
            refine AWP.seqk fun K39 hK39 => ?_
            refine AWP.region (AOPS.all (by simp (disch := first | omega | (simp only [List.length_append, List.length_cons, List.length_nil, List.length_set, List.length_replicate, Int.toNat_natCast]; omega)) [idf_Wd']; rfl) ?_)
            refine hK39 _ ?_
            refine AWP.seqk fun K40 hK40 => ?_
            refine AWP.region ?_
            refine AOPS.runk 2 (by simp (disch := first | omega | (simp only [List.length_append, List.length_cons, List.length_nil, List.length_set, List.length_replicate, Int.toNat_natCast]; omega)) [List.take_succ_cons, List.take_zero, idf_Wd', h21]; rfl) ?_
            simp only [List.drop_succ_cons, List.drop_zero]
            refine AOPS.ecall (FE.add64 nb117 (q * gt Vl i % 18446744073709551616) c 0 (by omega) c0 (by omega) (by omega)) rfl rfl rfl (by simp (disch := first | omega | (simp only [List.length_append, List.length_cons, List.length_nil, List.length_set, List.length_replicate, Int.toNat_natCast]; omega)) [idf_Wd', h21, idf_Wd']) (by simp (disch := first | omega | (simp only [List.length_append, List.length_cons, List.length_nil, List.length_set, List.length_replicate, Int.toNat_natCast]; omega)) [h21]) (by simp) ?_
            simp only [puts_some, updo]
            refine AOPS.all (by simp (disch := first | omega | (simp only [List.length_append, List.length_cons, List.length_nil, List.length_set, List.length_replicate, Int.toNat_natCast]; omega)) [idf_Wd', h21]; rfl) ?_
            refine hK40 _ ?_
            refine AWP.seqk fun K41 hK41 => ?_
            refine AWP.region (AOPS.all (by simp (disch := first | omega | (simp only [List.length_append, List.length_cons, List.length_nil, List.length_set, List.length_replicate, Int.toNat_natCast]; omega)) [szT31, agT31, unT31, zoT31, byT31, idf_Wd']; rfl) ?_)
            refine hK41 _ ?_
            refine AWP.region ?_
            refine AOPS.runk 12 (by simp (disch := first | omega | (simp only [List.length_append, List.length_cons, List.length_nil, List.length_set, List.length_replicate, Int.toNat_natCast]; omega)) [List.take_succ_cons, List.take_zero, szT3, agT3, unT3, zoT3, byT3, szT31, agT31, unT31, zoT31, byT31, szT97, agT97, elT97, unT97, zoT97, byT97, idx_WdD (P := Try.prog) elT97 szT31, if_pos, idf_Wd', h12, h14, h20, hU, x6.e, hu1, ld_ip agT31]; rfl) ?_
            simp only [List.drop_succ_cons, List.drop_zero]
            refine AOPS.ecall (FE.sub64 nb149 (gt u1 (j + i)) ((q * gt Vl i % 18446744073709551616 + c) % 18446744073709551616) br gui.1 (Int.emod_nonneg _ (by omega)) (Int.emod_lt_of_pos _ (by omega)) br0 br1) rfl rfl rfl (by simp (disch := first | omega | (simp only [List.length_append, List.length_cons, List.length_nil, List.length_set, List.length_replicate, Int.toNat_natCast]; omega)) [idf_Wd', h12, h14, h20, hU, x6.e, hu1, ld_ip agT31, idf_Wd']) (by simp (disch := first | omega | (simp only [List.length_append, List.length_cons, List.length_nil, List.length_set, List.length_replicate, Int.toNat_natCast]; omega)) [h12, h14, h20, hU, x6.e, hu1, ld_ip agT31]) (by simp) ?_
            simp only [puts_some, updo]
            refine AOPS.all (by simp (disch := first | omega | (simp only [List.length_append, List.length_cons, List.length_nil, List.length_set, List.length_replicate, Int.toNat_natCast]; omega)) [szT3, agT3, unT3, zoT3, byT3, szT31, agT31, unT31, zoT31, byT31, szT97, agT97, elT97, unT97, zoT97, byT97, idx_WdD (P := Try.prog) elT97 szT31, if_pos, idf_Wd', h12, h14, h20, hU, x6.e, hu1, ld_ip agT31]; rfl) ?_
            refine hK36 _ ?_
            refine AWP.region (AOPS.all (by simp (disch := first | omega | (simp only [List.length_append, List.length_cons, List.length_nil, List.length_set, List.length_replicate, Int.toNat_natCast]; omega)) [szT3, agT3, unT3, zoT3, byT3, idf_Wd', h176]; rfl) ?_)
            refine ⟨n - (i + 1), by omega, i + 1, u1.set (j + i) ((gt u1 (j + i) - (q * gt Vl i % 18446744073709551616 + c) % 18446744073709551616 - br) % 18446744073709551616), _, _, rfl, by omega, ws.2.2.2, by split <;> omega, by split <;> omega, ws.2.1, ws.2.2.1, by simp [h6], by simp [h10], by simp [h11], by simp [h12], by simp [h13], by simp [h14], by simp [h15], by simp, by simp, by simp [h175], by simp (disch := omega) [h176], by simp (disch := omega) [hU], by simp (disch := omega) [hO], rfl⟩
          · try simp only [decide_eq_true_eq, decide_eq_false_iff_not] at h177
            have hin : i = n := by omega
            rw [hin, val_take_all (by omega), vV] at w
            have wl := win_sub_last w (by omega) br0 br1 c0 cB
            have gun := w.dig.gt (by omega) (j + n)
            refine AWP.exit ?_
            refine hK32 _ ?_
            refine AWP.seqk fun K42 hK42 => ?_
            refine AWP.region ?_
            refine AOPS.runk 12 (by simp (disch := first | omega | (simp only [List.length_append, List.length_cons, List.length_nil, List.length_set, List.length_replicate, Int.toNat_natCast]; omega)) [List.take_succ_cons, List.take_zero, szT3, agT3, unT3, zoT3, byT3, szT31, agT31, unT31, zoT31, byT31, szT97, agT97, elT97, unT97, zoT97, byT97, idx_WdD (P := Try.prog) elT97 szT31, if_pos, idf_Wd', h6, h12, h14, h20, h21, hU, x7.e, hu1, ld_ip agT31]; rfl) ?_
            simp only [List.drop_succ_cons, List.drop_zero]
            refine AOPS.ecall (FE.sub64 nb149 (gt u1 (j + n)) c br gun.1 c0 cB br0 br1) rfl rfl rfl (by simp (disch := first | omega | (simp only [List.length_append, List.length_cons, List.length_nil, List.length_set, List.length_replicate, Int.toNat_natCast]; omega)) [idf_Wd', h6, h12, h14, h20, h21, hU, x7.e, hu1, ld_ip agT31, idf_Wd']) (by simp (disch := first | omega | (simp only [List.length_append, List.length_cons, List.length_nil, List.length_set, List.length_replicate, Int.toNat_natCast]; omega)) [h6, h12, h14, h20, h21, hU, x7.e, hu1, ld_ip agT31]) (by simp) ?_
            simp only [puts_some, updo]
            refine AOPS.all (by simp (disch := first | omega | (simp only [List.length_append, List.length_cons, List.length_nil, List.length_set, List.length_replicate, Int.toNat_natCast]; omega)) [szT3, agT3, unT3, zoT3, byT3, szT31, agT31, unT31, zoT31, byT31, szT97, agT97, elT97, unT97, zoT97, byT97, idx_WdD (P := Try.prog) elT97 szT31, if_pos, idf_Wd', h6, h12, h14, h20, h21, hU, x7.e, hu1, ld_ip agT31]; rfl) ?_
            refine hK42 _ ?_
            refine AWP.seqk fun K43 hK43 => ?_
            refine AWP.block ?_
            refine AWP.loop (fun N s => ∃ (q : Int) (u1 : List Int) (br : Int), N = q.toNat ∧ Win u u1 j n (-(q * ((d : Int) * 2 ^ k)) + (18446744073709551616 : Int) ^ (n + 1) * br) ∧ val 18446744073709551616 (u.drop j) < (q + 1) * ((d : Int) * 2 ^ k) ∧ 0 ≤ q ∧ q < 18446744073709551616 ∧ (br = 0 ∨ br = 1) ∧ s.env 6 = .int .i64 (n : Int) ∧ s.env 10 = .int .i64 (k : Int) ∧ s.env 11 = Wd .u64 Vl ∧ s.env 12 = .osl iu 0 (J + n + 1) ∧ s.env 13 = .osl io 0 (J + 1) ∧ s.env 14 = .int .i64 (j : Int) ∧ s.env 15 = .int .u64 q ∧ s.env 20 = .int .u64 br ∧ s.heap iu = some (1, wd .u64 u1) ∧ s.heap io = some (1, wd .u64 out) ∧ s.nt = 326) (q.toNat) (⟨q, u1.set (j + n) ((gt u1 (j + n) - c - br) % 18446744073709551616), (if gt u1 (j + n) < c + br then 1 else 0), rfl, wl, qlt, q0, qB, by split <;> simp, by simp [h6], by simp [h10], by simp [h11], by simp [h12], by simp [h13], by simp [h14], by simp [h15], by simp, by simp (disch := omega) [hU], by simp (disch := omega) [hO], rfl⟩) ?_
            clear h6 h10 h11 h12 h13 h14 h15 h20 h21 h175 h176 hU hO hu1 wl gun w qlt q0 qB
            rintro N ⟨e, H, mm, nt⟩ ⟨q, u1, br, rfl, w, qlt, q0, qB, hbr, h6, h10, h11, h12, h13, h14, h15, h20, hU, hO, rfl⟩
            simp only [] at h6 h10 h11 h12 h13 h14 h15 h20 hU hO
            have hu1 : u1.length = J + n + 1 := w.len.trans hul
            refine AWP.seqk fun K44 hK44 => ?_
            refine AWP.seqk fun K45 hK45 => ?_
            refine AWP.region (AOPS.all (by simp (disch := first | omega | (simp only [List.length_append, List.length_cons, List.length_nil, List.length_set, List.length_replicate, Int.toNat_natCast]; omega)) [szT31, agT31, unT31, zoT31, byT31, idf_Wd', h20]; rfl) ?_)
            refine hK45 _ ?_
            refine cond_ok _ (by simp (disch := first | omega | (simp only [List.length_append, List.length_cons, List.length_nil, List.length_set, List.length_replicate, Int.toNat_natCast]; omega)); rfl) (fun h233 => ?_) (fun h233 => ?_)
            · try simp only [decide_eq_true_eq, decide_eq_false_iff_not] at h233
              have hb1 : br = 1 := by simpa using h233
              subst hb1
              rw [Int.mul_one] at w
              have wlt := w.lt hz
              have hneg : val 18446744073709551616 (u.drop j) < q * ((d : Int) * 2 ^ k) := by omega
              have hq1 : 1 ≤ q := by
                rcases Int.lt_or_le q 1 with h | h
                · have : q = 0 := by omega
                  subst this; omega
                · exact h
              refine AWP.skip ?_
              refine hK44 _ ?_
              refine AWP.block ?_
              refine AWP.seqk fun K46 hK46 => ?_
              refine AWP.region (AOPS.all (by simp (disch := first | omega | (simp only [List.length_append, List.length_cons, List.length_nil, List.length_set, List.length_replicate, Int.toNat_natCast]; omega)) [szT31, agT31, unT31, zoT31, byT31, idf_Wd', h15]; rfl) ?_)
              refine hK46 _ ?_
              refine AWP.seqk fun K47 hK47 => ?_
              refine AWP.region (AOPS.all (by simp (disch := first | omega | (simp only [List.length_append, List.length_cons, List.length_nil, List.length_set, List.length_replicate, Int.toNat_natCast]; omega)) [idf_Wd']; rfl) ?_)
              refine hK47 _ ?_
              refine AWP.seqk fun K48 hK48 => ?_
              refine AWP.seqk fun K49 hK49 => ?_
              refine AWP.region (AOPS.all (by simp (disch := first | omega | (simp only [List.length_append, List.length_cons, List.length_nil, List.length_set, List.length_replicate, Int.toNat_natCast]; omega)) [idf_Wd', h6]; rfl) ?_)
              refine hK49 _ ?_
              refine AWP.block ?_
              refine AWP.loop (fun N s => ∃ (i : Nat) (u2 : List Int) (c : Int), N = n - i ∧ i ≤ n ∧ Win u u2 j n (-(q * ((d : Int) * 2 ^ k)) + (18446744073709551616 : Int) ^ (n + 1) + val 18446744073709551616 (Vl.take i) - (18446744073709551616 : Int) ^ i * c) ∧ 0 ≤ c ∧ c ≤ 1 ∧ s.env 6 = .int .i64 (n : Int) ∧ s.env 10 = .int .i64 (k : Int) ∧ s.env 11 = Wd .u64 Vl ∧ s.env 12 = .osl iu 0 (J + n + 1) ∧ s.env 13 = .osl io 0 (J + 1) ∧ s.env 14 = .int .i64 (j : Int) ∧ s.env 15 = .int .u64 (q - 1) ∧ s.env 20 = .int .u64 1 ∧ s.env 26 = .int .u64 c ∧ s.env 236 = .int .i64 (n : Int) ∧ s.env 237 = .int .i64 (i : Int) ∧ s.heap iu = some (1, wd .u64 u2) ∧ s.heap io = some (1, wd .u64 out) ∧ s.nt = 326) (n) (⟨0, u1, 0, by omega, by omega, w.cast (by simp [val]), by omega, by omega, by simp [h6], by simp [h10], by simp [h11], by simp [h12], by simp [h13], by simp [h14], by simp, by simp [h20], by simp, by simp, by simp, by simp (disch := omega) [hU], by simp (disch := omega) [hO], rfl⟩) ?_
              clear h6 h10 h11 h12 h13 h14 h15 h20 hU hO hu1
              rintro N ⟨e, H, mm, nt⟩ ⟨i, u2, c, rfl, hi, w2, c0, c1, h6, h10, h11, h12, h13, h14, h15, h20, h26, h236, h237, hU, hO, rfl⟩
              simp only [] at h6 h10 h11 h12 h13 h14 h15 h20 h26 h236 h237 hU hO
              have hu2 : u2.length = J + n + 1 := w2.len.trans hul
              refine AWP.seqk fun K50 hK50 => ?_
              refine AWP.region (AOPS.all (by simp (disch := first | omega | (simp only [List.length_append, List.length_cons, List.length_nil, List.length_set, List.length_replicate, Int.toNat_natCast]; omega)) [szT3, agT3, unT3, zoT3, byT3, idf_Wd', h236, h237]; rfl) ?_)
              refine hK50 _ ?_
              refine AWP.seqk fun K51 hK51 => ?_
              refine cond_ok _ (by simp (disch := first | omega | (simp only [List.length_append, List.length_cons, List.length_nil, List.length_set, List.length_replicate, Int.toNat_natCast]; omega)); rfl) (fun h238 => ?_) (fun h238 => ?_)
              · try simp only [decide_eq_true_eq, decide_eq_false_iff_not] at h238
                have hi' : i < n := by omega
                have ws := win_add w2 hi (by omega) dV c0 c1
                have gvi := dV.gt (by omega) i
                have gui := w2.dig.gt (by omega) (j + i)
                have x6 : TN (((j : Int) + (i : Int)).toNat) (j + i) := TN.i (by omega)
                refine AWP.skip ?_
                refine hK51 _ ?_
                refine AWP.seqk fun K52 hK52 => ?_
                refine AWP.block ?_
                refine AWP.seqk fun K53 hK53 => ?_
                refine AWP.region (AOPS.all (by simp (disch := first | omega | (simp only [List.length_append, List.length_cons, List.length_nil, List.length_set, List.length_replicate, Int.toNat_natCast]; omega)) [idf_Wd', h237]; rfl) ?_)
                refine hK53 _ ?_
                refine AWP.old fun hold => ?_
                refine AWP.draw 20 Try.checked.mixed (by kernel_rfl) (by simp) ?_
                simp only [List.take_succ_cons, List.take_zero, List.drop_succ_cons, List.drop_zero]
                refine DP.runFk 15 (by simp (disch := first | omega | (simp only [List.length_append, List.length_cons, List.length_nil, List.length_set, List.length_replicate, Int.toNat_natCast]; omega)) [runDf.eq_def, runF1, runF2, stepF.eq_def, updo.eq_def, hupo.eq_def, opSto1.eq_def, List.take_succ_cons, List.take_zero, szT3, agT3, unT3, zoT3, byT3, szT31, agT31, unT31, zoT31, byT31, szT97, agT97, elT97, unT97, zoT97, byT97, idx_WdD (P := Try.prog) elT97 szT31, if_pos, idf_Wd', h11, h12, h14, h26, hU, x6.e, hu2, lV, ld_ip agT31]; rfl) fun fs54 hfs54 => ?_
                replace hfs54 : fs54.length = 15 := hfs54.trans rfl
                simp only [List.drop_succ_cons, List.drop_zero]
                refine DP.ecall (FE.add64 nb117 (gt u2 (j + i)) (gt Vl i) c gui.1 gvi.1 c0 c1) rfl rfl rfl (by simp (disch := first | omega | (simp only [List.length_append, List.length_cons, List.length_nil, List.length_set, List.length_replicate, Int.toNat_natCast]; omega)) [idf_Wd', h11, h12, h14, h26, hU, x6.e, hu2, lV, ld_ip agT31, idf_Wd']) (by simp (disch := first | omega | (simp only [List.length_append, List.length_cons, List.length_nil, List.length_set, List.length_replicate, Int.toNat_natCast]; omega)) [h11, h12, h14, h26, hU, x6.e, hu2, lV, ld_ip agT31]) (by simp) ?_
                simp only [updo]
                refine DP.runFk 2 (by simp (disch := first | omega | (simp only [List.length_append, List.length_cons, List.length_nil, List.length_set, List.length_replicate, Int.toNat_natCast]; omega)) [runDf.eq_def, runF1, runF2, stepF.eq_def, updo.eq_def, hupo.eq_def, opSto1.eq_def, List.take_succ_cons, List.take_zero, szT3, agT3, unT3, zoT3, byT3, szT31, agT31, unT31, zoT31, byT31, szT97, agT97, elT97, unT97, zoT97, byT97, idx_WdD (P := Try.prog) elT97 szT31, if_pos, idf_Wd', h11, h12, h14, h26, hU, x6.e, hu2, lV, ld_ip agT31]; rfl) fun fs55 hfs55 => ?_
                replace hfs55 : fs55.length = 2 := hfs55.trans rfl
                simp only [List.drop_succ_cons, List.drop_zero]
                refine DP.runF1q (by simp (disch := first | omega | (simp only [List.length_append, List.length_cons, List.length_nil, List.length_set, List.length_replicate, Int.toNat_natCast]; omega)) [runDf.eq_def, runF1, runF2, stepF.eq_def, updo.eq_def, hupo.eq_def, opSto1.eq_def, szT3, agT3, unT3, zoT3, byT3, szT31, agT31, unT31, zoT31, byT31, szT97, agT97, elT97, unT97, zoT97, byT97, idx_WdD (P := Try.prog) elT97 szT31, if_pos, idf_Wd', h11, h12, h14, h26, hU, x6.e, hu2, lV, ld_ip agT31]; rfl) fun fq56 hfq56 => ?_
                replace hfq56 : fq56.q = [] := by rw [hfq56]; simp [qids, Op.operands, topId]
                simp only [updo]
                refine DP.runFk 1 (by simp (disch := first | omega | (simp only [List.length_append, List.length_cons, List.length_nil, List.length_set, List.length_replicate, Int.toNat_natCast]; omega)) [runDf.eq_def, runF1, runF2, stepF.eq_def, updo.eq_def, hupo.eq_def, opSto1.eq_def, List.take_succ_cons, List.take_zero, szT3, agT3, unT3, zoT3, byT3, szT31, agT31, unT31, zoT31, byT31, szT97, agT97, elT97, unT97, zoT97, byT97, idx_WdD (P := Try.prog) elT97 szT31, if_pos, idf_Wd', h11, h12, h14, h26, hU, x6.e, hu2, lV, ld_ip agT31]; rfl) fun fs57 hfs57 => ?_
                replace hfs57 : fs57.length = 1 := hfs57.trans rfl
                simp only [List.drop_succ_cons, List.drop_zero]
                refine DQ.runG (m := 20) [18] (by simp only [List.length_append, List.length_cons, List.length_nil, hfs54, hfs55, hfs57]; omega) (by intro k f hk hex; simp only [List.mem_cons, List.not_mem_nil, or_false] at hex; rcases hex with rfl <;> (simp [List.getElem?_append, hfs54, hfs55, hfs57] at hk; subst hk; assumption)) _ _ _ (fun id q h j hj => by have := hold id q h; simp at hj; omega) (by kernel_rfl) rfl (by simp (disch := first | omega | (simp only [List.length_append, List.length_cons, List.length_nil, List.length_set, List.length_replicate, Int.toNat_natCast]; omega)) [runDf.eq_def, runF1, runF2, stepF.eq_def, updo.eq_def, hupo.eq_def, opSto1.eq_def, szT3, agT3, unT3, zoT3, byT3, szT31, agT31, unT31, zoT31, byT31, szT97, agT97, elT97, unT97, zoT97, byT97, idx_WdD (P := Try.prog) elT97 szT31, if_pos, idf_Wd', h11, h12, h14, h26, hU, x6.e, hu2, lV, ld_ip agT31]; rfl) ?_
                refine hK52 _ ?_
                refine AWP.region (AOPS.all (by simp (disch := first | omega | (simp only [List.length_append, List.length_cons, List.length_nil, List.length_set, List.length_replicate, Int.toNat_natCast]; omega)) [szT3, agT3, unT3, zoT3, byT3, idf_Wd', h237]; rfl) ?_)
                refine ⟨n - (i + 1), by omega, i + 1, u2.set (j + i) ((gt u2 (j + i) + gt Vl i + c) % 18446744073709551616), (gt u2 (j + i) + gt Vl i + c) / 18446744073709551616, rfl, by omega, ws.2.2, ws.1, ws.2.1, by simp [h6], by simp [h10], by simp [h11], by simp [h12], by simp [h13], by simp [h14], by simp [h15], by simp [h20], by simp, by simp [h236], by simp (disch := omega) [h237], by simp (disch := omega) [hU], by simp (disch := omega) [hO], rfl⟩
              · try simp only [decide_eq_true_eq, decide_eq_false_iff_not] at h238
                have hin : i = n := by omega
                rw [hin, val_take_all (by omega), vV] at w2
                have wl := win_add_last w2 (by omega) c0 c1
                have gun := w2.dig.gt (by omega) (j + n)
                have wl0 := wl.1
                have wl1 := wl.2.1
                refine AWP.exit ?_
                refine hK48 _ ?_
                refine AWP.seqk fun K58 hK58 => ?_
                refine AWP.region ?_
                refine AOPS.runk 11 (by simp (disch := first | omega | (simp only [List.length_append, List.length_cons, List.length_nil, List.length_set, List.length_replicate, Int.toNat_natCast]; omega)) [List.take_succ_cons, List.take_zero, szT3, agT3, unT3, zoT3, byT3, szT31, agT31, unT31, zoT31, byT31, szT97, agT97, elT97, unT97, zoT97, byT97, idx_WdD (P := Try.prog) elT97 szT31, if_pos, idf_Wd', h6, h12, h14, h26, hU, x7.e, hu2, ld_ip agT31]; rfl) ?_
                simp only [List.drop_succ_cons, List.drop_zero]
                refine AOPS.ecall (FE.add64 nb117 (gt u2 (j + n)) 0 c gun.1 (by omega) c0 c1) rfl rfl rfl (by simp (disch := first | omega | (simp only [List.length_append, List.length_cons, List.length_nil, List.length_set, List.length_replicate, Int.toNat_natCast]; omega)) [idf_Wd', h6, h12, h14, h26, hU, x7.e, hu2, ld_ip agT31, idf_Wd']) (by simp (disch := first | omega | (simp only [List.length_append, List.length_cons, List.length_nil, List.length_set, List.length_replicate, Int.toNat_natCast]; omega)) [h6, h12, h14, h26, hU, x7.e, hu2, ld_ip agT31]) (by simp) ?_
                simp only [puts_some, updo]
                refine AOPS.all (by simp (disch := first | omega | (simp only [List.length_append, List.length_cons, List.length_nil, List.length_set, List.length_replicate, Int.toNat_natCast]; omega)) [szT3, agT3, unT3, zoT3, byT3, szT31, agT31, unT31, zoT31, byT31, szT97, agT97, elT97, unT97, zoT97, byT97, idx_WdD (P := Try.prog) elT97 szT31, if_pos, idf_Wd', h6, h12, h14, h26, hU, x7.e, hu2, ld_ip agT31]; rfl) ?_
                refine hK58 _ ?_
                refine AWP.region (AOPS.all (by simp (disch := first | omega | (simp only [List.length_append, List.length_cons, List.length_nil, List.length_set, List.length_replicate, Int.toNat_natCast]; omega)) [szT31, agT31, unT31, zoT31, byT31, idf_Wd', h20]; rfl) ?_)
                refine ⟨(q - 1).toNat, by omega, q - 1, u2.set (j + n) ((gt u2 (j + n) + c) % 18446744073709551616), 1 - (gt u2 (j + n) + c) / 18446744073709551616, rfl, wl.2.2.cast (ab_cast _ _ _ _), by rw [show q - 1 + 1 = q by omega]; exact hneg, by omega, by omega, by omega, by simp [h6], by simp [h10], by simp [h11], by simp [h12], by simp [h13], by simp [h14], by simp [h15], by simp, by simp (disch := omega) [hU], by simp (disch := omega) [hO], rfl⟩
            · try simp only [decide_eq_true_eq, decide_eq_false_iff_not] at h233
              have hb0 : br = 0 := by simp at h233; omega
              subst hb0
              rw [Int.mul_zero, Int.add_zero] at w
              refine AWP.exit ?_
              refine hK43 _ ?_
              refine AWP.region (AOPS.all (by simp (disch := first | omega | (simp only [List.length_append, List.length_cons, List.length_nil, List.length_set, List.length_replicate, Int.toNat_natCast]; omega)) [szT31, agT31, unT31, zoT31, byT31, szT97, agT97, elT97, unT97, zoT97, byT97, idx_WdD (P := Try.prog) elT97 szT31, if_pos, idf_Wd', h13, h14, h15, hO, hol]; rfl) ?_)
              refine hK28 _ ?_
              refine AWP.region (AOPS.all (by simp (disch := first | omega | (simp only [List.length_append, List.length_cons, List.length_nil, List.length_set, List.length_replicate, Int.toNat_natCast]; omega)) [szT3, agT3, unT3, zoT3, byT3, idf_Wd', h14]; rfl) ?_)
              refine ⟨j, by omega, j, u1, out.set j q, rfl, by omega, hKn.step (n := n) w q0 qB qlt (by omega), w.len.trans hul, by simp [hol], by simp [h6], by simp [h10], by simp [h11], by simp [h12], by simp [h13], by simp [h14], by simp (disch := omega) [hU], by simp (disch := omega) [hO], rfl⟩
        refine AWP.seqk fun K59 hK59 => ?_
        refine AWP.drawF 12 Try.checked.mixed (by kernel_rfl) (by simp (disch := first | omega | (simp only [List.length_append, List.length_cons, List.length_nil, List.length_set, List.length_replicate, Int.toNat_natCast]; omega)) [runDf.eq_def, runF1, runF2, stepF.eq_def, updo.eq_def, hupo.eq_def, opSto1.eq_def, szT3, agT3, unT3, zoT3, byT3, szT31, agT31, unT31, zoT31, byT31, szT97, agT97, elT97, unT97, zoT97, byT97, idx_WdD (P := Try.prog) elT97 szT31, if_pos, idf_Wd', h6, h11, h12, h14, hU, x1.e, x4.e, lV, hul, ld_ip agT31]; rfl) ?_
        refine hK59 _ ?_
        refine cond_ok _ (by simp (disch := first | omega | (simp only [List.length_append, List.length_cons, List.length_nil, List.length_set, List.length_replicate, Int.toNat_natCast]; omega)); rfl) (fun h109 => ?_) (fun h109 => ?_)
        · try simp only [decide_eq_true_eq, decide_eq_false_iff_not] at h109
          have hQ0 := Qh.start hPm hw tg g1.1 h109 gv1.2 g2.1 g2.2 g3.2 gv2.1
          refine AWP.seqk fun K60 hK60 => ?_
          refine AWP.region (AOPS.all (by simp (disch := first | omega | (simp only [List.length_append, List.length_cons, List.length_nil, List.length_set, List.length_replicate, Int.toNat_natCast]; omega)) [idf_Wd']; rfl) ?_)
          refine hK60 _ ?_
          refine AWP.seqk fun K61 hK61 => ?_
          refine AWP.draw 22 Try.checked.mixed (by kernel_rfl) (by simp) ?_
          simp only [List.take_succ_cons, List.take_zero, List.drop_succ_cons, List.drop_zero]
          refine DP.runFk 18 (by simp (disch := first | omega | (simp only [List.length_append, List.length_cons, List.length_nil, List.length_set, List.length_replicate, Int.toNat_natCast]; omega)) [runDf.eq_def, runF1, runF2, stepF.eq_def, updo.eq_def, hupo.eq_def, opSto1.eq_def, List.take_succ_cons, List.take_zero, szT3, agT3, unT3, zoT3, byT3, szT31, agT31, unT31, zoT31, byT31, szT97, agT97, elT97, unT97, zoT97, byT97, idx_WdD (P := Try.prog) elT97 szT31, if_pos, idf_Wd', h6, h11, h12, h14, hU, x1.e, x2.e, x4.e, lV, hul, ld_ip agT31]; rfl) fun fs62 hfs62 => ?_
          replace hfs62 : fs62.length = 18 := hfs62.trans rfl
          simp only [List.drop_succ_cons, List.drop_zero]
          refine DP.fcall (div64_fc (hi := gt u (j + m + 2)) (lo := gt u (j + m + 1)) (y0 := gt Vl (m + 1)) g1.1 h109 g2.1 g2.2 gv1.2) rfl rfl rfl hb147 (by simp (disch := first | omega | (simp only [List.length_append, List.length_cons, List.length_nil, List.length_set, List.length_replicate, Int.toNat_natCast]; omega)) [idf_Wd', h6, h11, h12, h14, hU, x1.e, x2.e, x4.e, lV, hul, ld_ip agT31, idf_Wd']) (by simp (disch := first | omega | (simp only [List.length_append, List.length_cons, List.length_nil, List.length_set, List.length_replicate, Int.toNat_natCast]; omega)) [h6, h11, h12, h14, hU, x1.e, x2.e, x4.e, lV, hul, ld_ip agT31]) (by simp) ?_
          simp only [updo]
          refine DP.runFk 3 (by simp (disch := first | omega | (simp only [List.length_append, List.length_cons, List.length_nil, List.length_set, List.length_replicate, Int.toNat_natCast]; omega)) [runDf.eq_def, runF1, runF2, stepF.eq_def, updo.eq_def, hupo.eq_def, opSto1.eq_def, List.take_succ_cons, List.take_zero, szT3, agT3, unT3, zoT3, byT3, szT31, agT31, unT31, zoT31, byT31, szT97, agT97, elT97, unT97, zoT97, byT97, idx_WdD (P := Try.prog) elT97 szT31, if_pos, idf_Wd', h6, h11, h12, h14, hU, x1.e, x2.e, x4.e, lV, hul, ld_ip agT31]; rfl) fun fs63 hfs63 => ?_
          replace hfs63 : fs63.length = 3 := hfs63.trans rfl
          simp only [List.drop_succ_cons, List.drop_zero]
          refine DQ.runF (m := 22) (by simp only [List.length_append, List.length_cons, List.length_nil, hfs62, hfs63]; omega) _ _ _ (by kernel_rfl) rfl (by simp (disch := first | omega | (simp only [List.length_append, List.length_cons, List.length_nil, List.length_set, List.length_replicate, Int.toNat_natCast]; omega)) [runDf.eq_def, runF1, runF2, stepF.eq_def, updo.eq_def, hupo.eq_def, opSto1.eq_def, szT3, agT3, unT3, zoT3, byT3, szT31, agT31, unT31, zoT31, byT31, szT97, agT97, elT97, unT97, zoT97, byT97, idx_WdD (P := Try.prog) elT97 szT31, if_pos, idf_Wd', h6, h11, h12, h14, hU, x1.e, x2.e, x4.e, lV, hul, ld_ip agT31]; rfl) ?_
          refine hK61 _ ?_
          refine AWP.block ?_
          refine AWP.loop (fun N s => ∃ q r : Int, N = q.toNat ∧ Qh (val 18446744073709551616 (u.drop j)) ((d : Int) * 2 ^ k) (gt u (j + m + 2)) (gt u (j + m + 1)) (gt Vl (m + 1)) q r ∧ s.env 6 = .int .i64 (n : Int) ∧ s.env 10 = .int .i64 (k : Int) ∧ s.env 11 = Wd .u64 Vl ∧ s.env 12 = .osl iu 0 (J + n + 1) ∧ s.env 13 = .osl io 0 (J + 1) ∧ s.env 14 = .int .i64 (j : Int) ∧ s.env 15 = .int .u64 q ∧ s.env 16 = .int .u64 r ∧ s.heap iu = some (1, wd .u64 u) ∧ s.heap io = some (1, wd .u64 out) ∧ s.nt = 326) (((gt u (j + m + 2) * 18446744073709551616 + gt u (j + m + 1)) / gt Vl (m + 1)).toNat) (⟨_, _, rfl, hQ0, by simp [h6], by simp [h10], by simp [h11], by simp [h12], by simp [h13], by simp [h14], by simp, by simp, by simp (disch := omega) [hU], by simp (disch := omega) [hO], rfl⟩) ?_
          clear h6 h10 h11 h12 h13 h14 hU hO
          rintro N ⟨e, H, mm, nt⟩ ⟨q, r, rfl, hQ, h6, h10, h11, h12, h13, h14, h15, h16, hU, hO, rfl⟩
          simp only [] at h6 h10 h11 h12 h13 h14 h15 h16 hU hO
          have hq0 := hQ.q0
          have hqB := hQ.qB
          have hr0 := hQ.r0
          have hrB := hQ.rB
          have m0 : 0 ≤ q * gt Vl m := Int.mul_nonneg hq0 gv2.1
          refine AWP.block ?_
          refine AWP.seqk fun K64 hK64 => ?_
          refine AWP.region ?_
          refine AOPS.runk 6 (by simp (disch := first | omega | (simp only [List.length_append, List.length_cons, List.length_nil, List.length_set, List.length_replicate, Int.toNat_natCast]; omega)) [List.take_succ_cons, List.take_zero, szT3, agT3, unT3, zoT3, byT3, szT31, agT31, unT31, zoT31, byT31, szT97, agT97, elT97, unT97, zoT97, byT97, idx_WdD (P := Try.prog) elT97 szT31, if_pos, idf_Wd', h6, h11, h15, x5.e, lV, ld_ip agT31]; rfl) ?_
          simp only [List.drop_succ_cons, List.drop_zero]
          refine AOPS.fcall (mul64_fc q (gt Vl m) hq0 hqB gv2.1 gv2.2) rfl rfl rfl hb116 (by simp (disch := first | omega | (simp only [List.length_append, List.length_cons, List.length_nil, List.length_set, List.length_replicate, Int.toNat_natCast]; omega)) [idf_Wd', h6, h11, h15, x5.e, lV, ld_ip agT31, idf_Wd']) (by simp (disch := first | omega | (simp only [List.length_append, List.length_cons, List.length_nil, List.length_set, List.length_replicate, Int.toNat_natCast]; omega)) [h6, h11, h15, x5.e, lV, ld_ip agT31]) (by simp) ?_
          simp only [puts_some, updo]
          refine AOPS.all (by simp (disch := first | omega | (simp only [List.length_append, List.length_cons, List.length_nil, List.length_set, List.length_replicate, Int.toNat_natCast]; omega)) [szT3, agT3, unT3, zoT3, byT3, szT31, agT31, unT31, zoT31, byT31, szT97, agT97, elT97, unT97, zoT97, byT97, idx_WdD (P := Try.prog) elT97 szT31, if_pos, idf_Wd', h6, h11, h15, x5.e, lV, ld_ip agT31]; rfl) ?_
          refine hK64 _ ?_
          refine AWP.seqk fun K65 hK65 => ?_
          refine AWP.seqk fun K66 hK66 => ?_
          by_cases hA : q * gt Vl m / 18446744073709551616 < r
          · have c1 : decide (q * gt Vl m / 18446744073709551616 < r) = true := by simp; omega
            refine AWP.region (AOPS.all (by simp (disch := first | omega | (simp only [List.length_append, List.length_cons, List.length_nil, List.length_set, List.length_replicate, Int.toNat_natCast]; omega)) [szT3, agT3, unT3, zoT3, byT3, szT31, agT31, unT31, zoT31, byT31, szT97, agT97, elT97, unT97, zoT97, byT97, idx_WdD (P := Try.prog) elT97 szT31, if_pos, idf_Wd', h16, c1]; rfl) ?_)
            refine hK66 _ ?_
            refine cond_ok _ (by simp (disch := first | omega | (simp only [List.length_append, List.length_cons, List.length_nil, List.length_set, List.length_replicate, Int.toNat_natCast]; omega)); rfl) (fun h160 => ?_) (fun h160 => ?_)
            · try simp only [decide_eq_true_eq, decide_eq_false_iff_not] at h160
              refine AWP.exit ?_
              refine J30 _ ?_
              exact ⟨q, hq0, hqB, hQ.lt, by simp [h6], by simp [h10], by simp [h11], by simp [h12], by simp [h13], by simp [h14], by simp [h15], by simp (disch := omega) [hU], by simp (disch := omega) [hO], rfl⟩
            · simp at h160
          · have c1 : decide (q * gt Vl m / 18446744073709551616 < r) = false := by simp; omega
            by_cases hB : q * gt Vl m / 18446744073709551616 = r
            · have c2 : (q * gt Vl m / 18446744073709551616 == r) = true := by simp [hB]
              refine AWP.region (AOPS.all (by simp (disch := first | omega | (simp only [List.length_append, List.length_cons, List.length_nil, List.length_set, List.length_replicate, Int.toNat_natCast]; omega)) [szT3, agT3, unT3, zoT3, byT3, szT31, agT31, unT31, zoT31, byT31, szT97, agT97, elT97, unT97, zoT97, byT97, idx_WdD (P := Try.prog) elT97 szT31, if_pos, idf_Wd', h6, h12, h14, h16, hU, x3.e, hul, c1, c2, ld_ip agT31]; rfl) ?_)
              refine hK66 _ ?_
              refine cond_ok _ (by simp (disch := first | omega | (simp only [List.length_append, List.length_cons, List.length_nil, List.length_set, List.length_replicate, Int.toNat_natCast]; omega)); rfl) (fun h160 => ?_) (fun h160 => ?_)
              · try simp only [decide_eq_true_eq, decide_eq_false_iff_not] at h160
                refine AWP.exit ?_
                refine J30 _ ?_
                exact ⟨q, hq0, hqB, hQ.lt, by simp [h6], by simp [h10], by simp [h11], by simp [h12], by simp [h13], by simp [h14], by simp [h15], by simp (disch := omega) [hU], by simp (disch := omega) [hO], rfl⟩
              · try simp only [decide_eq_true_eq, decide_eq_false_iff_not] at h160
                refine AWP.skip ?_
                refine hK65 _ ?_
                refine AWP.seqk fun K67 hK67 => ?_
                obtain ⟨s1, s2, s3⟩ := hQ.step hPm hw tg g3.1 (by omega)
                refine AWP.region (AOPS.all (by simp (disch := first | omega | (simp only [List.length_append, List.length_cons, List.length_nil, List.length_set, List.length_replicate, Int.toNat_natCast]; omega)) [szT31, agT31, unT31, zoT31, byT31, idf_Wd', h15]; rfl) ?_)
                refine hK67 _ ?_
                refine AWP.seqk fun K68 hK68 => ?_
                refine AWP.region (AOPS.all (by simp (disch := first | omega | (simp only [List.length_append, List.length_cons, List.length_nil, List.length_set, List.length_replicate, Int.toNat_natCast]; omega)) [idf_Wd']; rfl) ?_)
                refine hK68 _ ?_
                refine AWP.seqk fun K69 hK69 => ?_
                refine AWP.region ?_
                refine AOPS.runk 6 (by simp (disch := first | omega | (simp only [List.length_append, List.length_cons, List.length_nil, List.length_set, List.length_replicate, Int.toNat_natCast]; omega)) [List.take_succ_cons, List.take_zero, szT3, agT3, unT3, zoT3, byT3, szT31, agT31, unT31, zoT31, byT31, szT97, agT97, elT97, unT97, zoT97, byT97, idx_WdD (P := Try.prog) elT97 szT31, if_pos, idf_Wd', h6, h11, h16, x4.e, lV, ld_ip agT31]; rfl) ?_
                simp only [List.drop_succ_cons, List.drop_zero]
                refine AOPS.ecall (FE.add64 nb117 r (gt Vl (m + 1)) 0 hQ.r0 gv1.1 (by omega) (by omega)) rfl rfl rfl (by simp (disch := first | omega | (simp only [List.length_append, List.length_cons, List.length_nil, List.length_set, List.length_replicate, Int.toNat_natCast]; omega)) [idf_Wd', h6, h11, h16, x4.e, lV, ld_ip agT31, idf_Wd']) (by simp (disch := first | omega | (simp only [List.length_append, List.length_cons, List.length_nil, List.length_set, List.length_replicate, Int.toNat_natCast]; omega)) [h6, h11, h16, x4.e, lV, ld_ip agT31]) (by simp) ?_
                simp only [puts_some, updo]
                refine AOPS.all (by simp (disch := first | omega | (simp only [List.length_append, List.length_cons, List.length_nil, List.length_set, List.length_replicate, Int.toNat_natCast]; omega)) [szT3, agT3, unT3, zoT3, byT3, szT31, agT31, unT31, zoT31, byT31, szT97, agT97, elT97, unT97, zoT97, byT97, idx_WdD (P := Try.prog) elT97 szT31, if_pos, idf_Wd', h6, h11, h16, x4.e, lV, ld_ip agT31]; rfl) ?_
                refine hK69 _ ?_
                refine AWP.seqk fun K70 hK70 => ?_
                refine AWP.region (AOPS.all (by simp (disch := first | omega | (simp only [List.length_append, List.length_cons, List.length_nil, List.length_set, List.length_replicate, Int.toNat_natCast]; omega)) [szT31, agT31, unT31, zoT31, byT31, idf_Wd']; rfl) ?_)
                refine hK70 _ ?_
                refine cond_ok _ (by simp (disch := first | omega | (simp only [List.length_append, List.length_cons, List.length_nil, List.length_set, List.length_replicate, Int.toNat_natCast]; omega)); rfl) (fun h174 => ?_) (fun h174 => ?_)
                · try simp only [decide_eq_true_eq, decide_eq_false_iff_not] at h174
                  refine AWP.exit ?_
                  refine J30 _ ?_
                  exact ⟨q - 1, by omega, by omega, s2, by simp [h6], by simp [h10], by simp [h11], by simp [h12], by simp [h13], by simp [h14], by simp [h15], by simp (disch := omega) [hU], by simp (disch := omega) [hO], rfl⟩
                · try simp only [decide_eq_true_eq, decide_eq_false_iff_not] at h174
                  have hlt : r + gt Vl (m + 1) < 18446744073709551616 := by simp at h174; omega
                  refine AWP.skip ?_
                  refine ⟨(q - 1).toNat, by omega, q - 1, r + gt Vl (m + 1), rfl, ⟨s3, by omega, hlt, by omega, by omega, s2⟩, by simp [h6], by simp [h10], by simp [h11], by simp [h12], by simp [h13], by simp [h14], by simp, by simp [Int.emod_eq_of_lt (show 0 ≤ r + gt Vl (m + 1) by omega) hlt], by simp (disch := omega) [hU], by simp (disch := omega) [hO], rfl⟩
            · have c2 : (q * gt Vl m / 18446744073709551616 == r) = false := by simp [hB]
              refine AWP.region (AOPS.all (by simp (disch := first | omega | (simp only [List.length_append, List.length_cons, List.length_nil, List.length_set, List.length_replicate, Int.toNat_natCast]; omega)) [szT3, agT3, unT3, zoT3, byT3, szT31, agT31, unT31, zoT31, byT31, szT97, agT97, elT97, unT97, zoT97, byT97, idx_WdD (P := Try.prog) elT97 szT31, if_pos, idf_Wd', h16, c1, c2]; rfl) ?_)
              refine hK66 _ ?_
              refine cond_ok _ (by simp (disch := first | omega | (simp only [List.length_append, List.length_cons, List.length_nil, List.length_set, List.length_replicate, Int.toNat_natCast]; omega)); rfl) (fun h160 => ?_) (fun h160 => ?_)
              · simp at h160
              · try simp only [decide_eq_true_eq, decide_eq_false_iff_not] at h160
                refine AWP.skip ?_
                refine hK65 _ ?_
                refine AWP.seqk fun K71 hK71 => ?_
                obtain ⟨s1, s2, s3⟩ := hQ.step hPm hw tg g3.1 (by omega)
                refine AWP.region (AOPS.all (by simp (disch := first | omega | (simp only [List.length_append, List.length_cons, List.length_nil, List.length_set, List.length_replicate, Int.toNat_natCast]; omega)) [szT31, agT31, unT31, zoT31, byT31, idf_Wd', h15]; rfl) ?_)
                refine hK71 _ ?_
                refine AWP.seqk fun K72 hK72 => ?_
                refine AWP.region (AOPS.all (by simp (disch := first | omega | (simp only [List.length_append, List.length_cons, List.length_nil, List.length_set, List.length_replicate, Int.toNat_natCast]; omega)) [idf_Wd']; rfl) ?_)
                refine hK72 _ ?_
                refine AWP.seqk fun K73 hK73 => ?_
                refine AWP.region ?_
                refine AOPS.runk 6 (by simp (disch := first | omega | (simp only [List.length_append, List.length_cons, List.length_nil, List.length_set, List.length_replicate, Int.toNat_natCast]; omega)) [List.take_succ_cons, List.take_zero, szT3, agT3, unT3, zoT3, byT3, szT31, agT31, unT31, zoT31, byT31, szT97, agT97, elT97, unT97, zoT97, byT97, idx_WdD (P := Try.prog) elT97 szT31, if_pos, idf_Wd', h6, h11, h16, x4.e, lV, ld_ip agT31]; rfl) ?_
                simp only [List.drop_succ_cons, List.drop_zero]
                refine AOPS.ecall (FE.add64 nb117 r (gt Vl (m + 1)) 0 hQ.r0 gv1.1 (by omega) (by omega)) rfl rfl rfl (by simp (disch := first | omega | (simp only [List.length_append, List.length_cons, List.length_nil, List.length_set, List.length_replicate, Int.toNat_natCast]; omega)) [idf_Wd', h6, h11, h16, x4.e, lV, ld_ip agT31, idf_Wd']) (by simp (disch := first | omega | (simp only [List.length_append, List.length_cons, List.length_nil, List.length_set, List.length_replicate, Int.toNat_natCast]; omega)) [h6, h11, h16, x4.e, lV, ld_ip agT31]) (by simp) ?_
                simp only [puts_some, updo]
                refine AOPS.all (by simp (disch := first | omega | (simp only [List.length_append, List.length_cons, List.length_nil, List.length_set, List.length_replicate, Int.toNat_natCast]; omega)) [szT3, agT3, unT3, zoT3, byT3, szT31, agT31, unT31, zoT31, byT31, szT97, agT97, elT97, unT97, zoT97, byT97, idx_WdD (P := Try.prog) elT97 szT31, if_pos, idf_Wd', h6, h11, h16, x4.e, lV, ld_ip agT31]; rfl) ?_
                refine hK73 _ ?_
                refine AWP.seqk fun K74 hK74 => ?_
                refine AWP.region (AOPS.all (by simp (disch := first | omega | (simp only [List.length_append, List.length_cons, List.length_nil, List.length_set, List.length_replicate, Int.toNat_natCast]; omega)) [szT31, agT31, unT31, zoT31, byT31, idf_Wd']; rfl) ?_)
                refine hK74 _ ?_
                refine cond_ok _ (by simp (disch := first | omega | (simp only [List.length_append, List.length_cons, List.length_nil, List.length_set, List.length_replicate, Int.toNat_natCast]; omega)); rfl) (fun h174 => ?_) (fun h174 => ?_)
                · try simp only [decide_eq_true_eq, decide_eq_false_iff_not] at h174
                  refine AWP.exit ?_
                  refine J30 _ ?_
                  exact ⟨q - 1, by omega, by omega, s2, by simp [h6], by simp [h10], by simp [h11], by simp [h12], by simp [h13], by simp [h14], by simp [h15], by simp (disch := omega) [hU], by simp (disch := omega) [hO], rfl⟩
                · try simp only [decide_eq_true_eq, decide_eq_false_iff_not] at h174
                  have hlt : r + gt Vl (m + 1) < 18446744073709551616 := by simp at h174; omega
                  refine AWP.skip ?_
                  refine ⟨(q - 1).toNat, by omega, q - 1, r + gt Vl (m + 1), rfl, ⟨s3, by omega, hlt, by omega, by omega, s2⟩, by simp [h6], by simp [h10], by simp [h11], by simp [h12], by simp [h13], by simp [h14], by simp, by simp [Int.emod_eq_of_lt (show 0 ≤ r + gt Vl (m + 1) by omega) hlt], by simp (disch := omega) [hU], by simp (disch := omega) [hO], rfl⟩
        · try simp only [decide_eq_true_eq, decide_eq_false_iff_not] at h109
          refine AWP.skip ?_
          refine J30 _ ?_
          exact ⟨18446744073709551615, by omega, by omega, by omega, by simp [h6], by simp [h10], by simp [h11], by simp [h12], by simp [h13], by simp [h14], by simp, by simp (disch := omega) [hU], by simp (disch := omega) [hO], rfl⟩
      · try simp only [decide_eq_true_eq, decide_eq_false_iff_not] at h95
        obtain rfl : N = 0 := by omega
        obtain ⟨f1, f2⟩ := dw_fin hp0 hKn
        have hltn : val 18446744073709551616 u < (18446744073709551616 : Int) ^ n := by
          have := hKn.hi
          rw [List.drop_zero] at this
          rw [hn]; omega
        obtain ⟨M, hM⟩ : ∃ M, M = (trimW (u.take n)).length := ⟨_, rfl⟩
        have hMn : M ≤ n := by
          have := trimW_length (u.take n)
          rw [List.length_take] at this; omega
        refine AWP.exit ?_
        refine hK24 _ ?_
        refine AWP.seqk fun K75 hK75 => ?_
        refine AWP.region ?_
        refine AOPS.runk 3 (by simp (disch := first | omega | (simp only [List.length_append, List.length_cons, List.length_nil, List.length_set, List.length_replicate, Int.toNat_natCast]; omega)) [List.take_succ_cons, List.take_zero, szT31, agT31, unT31, zoT31, byT31, szT97, agT97, elT97, unT97, zoT97, byT97, if_pos, idf_Wd', h6, h12, hU, hul]; rfl) ?_
        simp only [List.drop_succ_cons, List.drop_zero]
        refine AOPS.acall (trim_ac u iu n _ _ (by simp [hU]) (by omega) (by omega)) rfl rfl rfl hb113 (by simp (disch := first | omega | (simp only [List.length_append, List.length_cons, List.length_nil, List.length_set, List.length_replicate, Int.toNat_natCast]; omega)) [idf_Wd', h6, h12, hU, hul, idf_Wd']) (by simp (disch := first | omega | (simp only [List.length_append, List.length_cons, List.length_nil, List.length_set, List.length_replicate, Int.toNat_natCast]; omega)) [h6, h12, hU, hul]) (by simp) ?_
        rintro _ H5 nx5 ⟨rfl, rfl, hnx5⟩
        rw [← hM]
        simp only [puts_some, updo]
        refine AOPS.all (by simp (disch := first | omega | (simp only [List.length_append, List.length_cons, List.length_nil, List.length_set, List.length_replicate, Int.toNat_natCast]; omega)) [szT31, agT31, unT31, zoT31, byT31, szT97, agT97, elT97, unT97, zoT97, byT97, if_pos, idf_Wd', h6, h12, hU, hul]; rfl) ?_
        refine hK75 _ ?_
        refine AWP.seqk fun K76 hK76 => ?_
        refine AWP.seqk fun K77 hK77 => ?_
        refine AWP.region (AOPS.all (by simp (disch := first | omega | (simp only [List.length_append, List.length_cons, List.length_nil, List.length_set, List.length_replicate, Int.toNat_natCast]; omega)) [szT31, agT31, unT31, zoT31, byT31, szT97, agT97, elT97, unT97, zoT97, byT97, len_Wd (P := Try.prog) #[97] rfl elT97, idf_Wd', hU]; rfl) ?_)
        refine hK77 _ ?_
        refine AWP.block ?_
        refine AWP.loop (fun N s => ∃ (i : Nat) (o : List Int), N = M - i ∧ i ≤ M ∧ o.length = J + n + 1 ∧ Dig 18446744073709551616 o ∧ (∀ x, x < i → gt o x = gt (trimW (u.take n)) x / 2 ^ k + gt (trimW (u.take n)) (x + 1) % 2 ^ k * 2 ^ (64 - k)) ∧ (∀ x, i ≤ x → x < M → gt o x = gt (trimW (u.take n)) x) ∧ s.env 10 = .int .i64 (k : Int) ∧ s.env 13 = .osl io 0 (J + 1) ∧ s.env 28 = .osl iu 0 M ∧ s.env 289 = .int .i64 (M : Int) ∧ s.env 290 = .int .i64 (i : Int) ∧ s.heap iu = some (1, wd .u64 o) ∧ s.heap io = some (1, wd .u64 out) ∧ s.nt = 326) (M) (⟨0, u, by omega, by omega, hul, hKn.dig, by intro x hx; omega, by intro x _ hx; rw [gt_trimW x (by omega), gt_take (by omega)], by simp [h10], by simp [h13], by simp, by simp, by simp, by simp (disch := omega) [hU], by simp (disch := omega) [hO], rfl⟩) ?_
        clear h6 h10 h11 h12 h13 h14 hU hO
        rintro N ⟨e, H, mm, nt⟩ ⟨i, o, rfl, hi, hol2, dO, hs1, hs2, h10, h13, h28, h289, h290, hU, hO, rfl⟩
        simp only [] at h10 h13 h28 h289 h290 hU hO
        refine AWP.seqk fun K78 hK78 => ?_
        refine AWP.region (AOPS.all (by simp (disch := first | omega | (simp only [List.length_append, List.length_cons, List.length_nil, List.length_set, List.length_replicate, Int.toNat_natCast]; omega)) [szT3, agT3, unT3, zoT3, byT3, idf_Wd', h289, h290]; rfl) ?_)
        refine hK78 _ ?_
        refine AWP.seqk fun K79 hK79 => ?_
        refine cond_ok _ (by simp (disch := first | omega | (simp only [List.length_append, List.length_cons, List.length_nil, List.length_set, List.length_replicate, Int.toNat_natCast]; omega)); rfl) (fun h291 => ?_) (fun h291 => ?_)
        · try simp only [decide_eq_true_eq, decide_eq_false_iff_not] at h291
          have hi' : i < M := by omega
          have dT := (hKn.dig.take n).trim
          have gi := dT.gt (by omega) i
          have gi2 := dT.gt (by omega) (i + 1)
          have od := or_down (y := gt (trimW (u.take n)) (i + 1)) hk gi.1 gi.2
          have hoi := hs2 i (Nat.le_refl _) hi'
          have i1 : TN (((i : Int) + 1).toNat) (i + 1) := TN.i (by omega)
          refine AWP.skip ?_
          refine hK79 _ ?_
          refine AWP.seqk fun K80 hK80 => ?_
          refine AWP.block ?_
          refine AWP.seqk fun K81 hK81 => ?_
          refine AWP.region (AOPS.all (by simp (disch := first | omega | (simp only [List.length_append, List.length_cons, List.length_nil, List.length_set, List.length_replicate, Int.toNat_natCast]; omega)) [idf_Wd', h290]; rfl) ?_)
          refine hK81 _ ?_
          refine AWP.seqk fun K82 hK82 => ?_
          refine AWP.region (AOPS.all (by simp (disch := first | omega | (simp only [List.length_append, List.length_cons, List.length_nil, List.length_set, List.length_replicate, Int.toNat_natCast]; omega)) [idf_Wd']; rfl) ?_)
          refine hK82 _ ?_
          refine AWP.seqk fun K83 hK83 => ?_
          refine AWP.seqk fun K84 hK84 => ?_
          by_cases hiM : i + 1 < M
          · have c1 : decide ((i : Int) + 1 < (M : Int)) = true := by simp; omega
            have c2 : True := trivial
            refine AWP.region (AOPS.all (by simp (disch := first | omega | (simp only [List.length_append, List.length_cons, List.length_nil, List.length_set, List.length_replicate, Int.toNat_natCast]; omega)) [szT3, agT3, unT3, zoT3, byT3, szT31, agT31, unT31, zoT31, byT31, szT97, agT97, elT97, unT97, zoT97, byT97, len_Wd (P := Try.prog) #[97] rfl elT97, idf_Wd', h10, h28, hU, c1]; rfl) ?_)
            refine hK84 _ ?_
            refine cond_ok _ (by simp (disch := first | omega | (simp only [List.length_append, List.length_cons, List.length_nil, List.length_set, List.length_replicate, Int.toNat_natCast]; omega)); rfl) (fun h301 => ?_) (fun h301 => ?_)
            · try simp only [decide_eq_true_eq, decide_eq_false_iff_not] at h301
              have hk0 : 0 < k := by omega
              have ho2 := hs2 (i + 1) (by omega) hiM
              have wl : IntKind.u64.wrap (gt (trimW (u.take n)) (i + 1) * 2 ^ (64 - k)) = gt (trimW (u.take n)) (i + 1) % 2 ^ k * 2 ^ (64 - k) := by rw [wrap_u64m, shl_low (by omega)]
              have w9 : TN (((64 : Int) - (k : Int)).toNat) (64 - k) := TN.i (by omega)
              have od1 := od.1
              refine AWP.region (AOPS.all (by simp (disch := first | omega | (simp only [List.length_append, List.length_cons, List.length_nil, List.length_set, List.length_replicate, Int.toNat_natCast]; omega)) [szT3, agT3, unT3, zoT3, byT3, szT31, agT31, unT31, zoT31, byT31, szT97, agT97, elT97, unT97, zoT97, byT97, idx_WdD (P := Try.prog) elT97 szT31, if_pos, idf_Wd', h10, h28, hU, hol2, i1.e, ho2, w9.e, hmk2.e, wl, IntKind.bits, ld_ip agT31]; rfl) ?_)
              refine hK83 _ ?_
              refine AWP.region (AOPS.all (by simp (disch := first | omega | (simp only [List.length_append, List.length_cons, List.length_nil, List.length_set, List.length_replicate, Int.toNat_natCast]; omega)) [szT31, agT31, unT31, zoT31, byT31, szT97, agT97, elT97, unT97, zoT97, byT97, idx_WdD (P := Try.prog) elT97 szT31, if_pos, idf_Wd', h10, h28, hU, hol2, hoi, hmk.e, IntKind.bits, fdk, od1, ld_ip agT31]; rfl) ?_)
              refine hK80 _ ?_
              refine AWP.region (AOPS.all (by simp (disch := first | omega | (simp only [List.length_append, List.length_cons, List.length_nil, List.length_set, List.length_replicate, Int.toNat_natCast]; omega)) [szT3, agT3, unT3, zoT3, byT3, idf_Wd', h290]; rfl) ?_)
              refine ⟨M - (i + 1), by omega, i + 1, o.set i (gt (trimW (u.take n)) i / 2 ^ k + gt (trimW (u.take n)) (i + 1) % 2 ^ k * 2 ^ (64 - k)), rfl, by omega, by simp [hol2], dO.set _ od.2.1 od.2.2, ?_, ?_, by simp [h10], by simp [h13], by simp [h28], by simp [h289], by simp (disch := omega) [h290], by simp, by simp (disch := omega) [hO], rfl⟩
              · intro x hx
                by_cases hxi : x = i
                · subst hxi; rw [gt_set (by omega)]
                · rw [gt_set_ne (by omega)]; exact hs1 x (by omega)
              · intro x hx hx2
                rw [gt_set_ne (by omega)]; exact hs2 x (by omega) hx2
            · try simp only [decide_eq_true_eq, decide_eq_false_iff_not] at h301
              have hk0 : k = 0 := by omega
              have hzz : gt (trimW (u.take n)) (i + 1) % 2 ^ k * 2 ^ (64 - k) = 0 := by subst hk0; simp
              have od1 := od.1
              rw [hzz, Int.add_zero] at od1
              refine AWP.skip ?_
              refine hK83 _ ?_
              refine AWP.region (AOPS.all (by simp (disch := first | omega | (simp only [List.length_append, List.length_cons, List.length_nil, List.length_set, List.length_replicate, Int.toNat_natCast]; omega)) [szT31, agT31, unT31, zoT31, byT31, szT97, agT97, elT97, unT97, zoT97, byT97, idx_WdD (P := Try.prog) elT97 szT31, if_pos, idf_Wd', h10, h28, hU, hol2, hoi, hmk.e, IntKind.bits, fdk, od1, ld_ip agT31]; rfl) ?_)
              refine hK80 _ ?_
              refine AWP.region (AOPS.all (by simp (disch := first | omega | (simp only [List.length_append, List.length_cons, List.length_nil, List.length_set, List.length_replicate, Int.toNat_natCast]; omega)) [szT3, agT3, unT3, zoT3, byT3, idf_Wd', h290]; rfl) ?_)
              refine ⟨M - (i + 1), by omega, i + 1, o.set i (gt (trimW (u.take n)) i / 2 ^ k + gt (trimW (u.take n)) (i + 1) % 2 ^ k * 2 ^ (64 - k)), rfl, by omega, by simp [hol2], dO.set _ od.2.1 od.2.2, ?_, ?_, by simp [h10], by simp [h13], by simp [h28], by simp [h289], by simp (disch := omega) [h290], by simp [hzz], by simp (disch := omega) [hO], rfl⟩
              · intro x hx
                by_cases hxi : x = i
                · subst hxi; rw [gt_set (by omega)]
                · rw [gt_set_ne (by omega)]; exact hs1 x (by omega)
              · intro x hx hx2
                rw [gt_set_ne (by omega)]; exact hs2 x (by omega) hx2
          · have c1 : decide ((i : Int) + 1 < (M : Int)) = false := by simp; omega
            have c2 : True := trivial
            refine AWP.region (AOPS.all (by simp (disch := first | omega | (simp only [List.length_append, List.length_cons, List.length_nil, List.length_set, List.length_replicate, Int.toNat_natCast]; omega)) [szT3, agT3, unT3, zoT3, byT3, szT31, agT31, unT31, zoT31, byT31, szT97, agT97, elT97, unT97, zoT97, byT97, len_Wd (P := Try.prog) #[97] rfl elT97, idf_Wd', h28, hU, c1]; rfl) ?_)
            refine hK84 _ ?_
            refine cond_ok _ (by simp (disch := first | omega | (simp only [List.length_append, List.length_cons, List.length_nil, List.length_set, List.length_replicate, Int.toNat_natCast]; omega)); rfl) (fun h301 => ?_) (fun h301 => ?_)
            · simp at h301
            · try simp only [decide_eq_true_eq, decide_eq_false_iff_not] at h301
              have hzz : gt (trimW (u.take n)) (i + 1) % 2 ^ k * 2 ^ (64 - k) = 0 := by rw [gt_ge (by omega), Int.zero_emod, Int.zero_mul]
              have od1 := od.1
              rw [hzz, Int.add_zero] at od1
              refine AWP.skip ?_
              refine hK83 _ ?_
              refine AWP.region (AOPS.all (by simp (disch := first | omega | (simp only [List.length_append, List.length_cons, List.length_nil, List.length_set, List.length_replicate, Int.toNat_natCast]; omega)) [szT31, agT31, unT31, zoT31, byT31, szT97, agT97, elT97, unT97, zoT97, byT97, idx_WdD (P := Try.prog) elT97 szT31, if_pos, idf_Wd', h10, h28, hU, hol2, hoi, hmk.e, IntKind.bits, fdk, od1, ld_ip agT31]; rfl) ?_)
              refine hK80 _ ?_
              refine AWP.region (AOPS.all (by simp (disch := first | omega | (simp only [List.length_append, List.length_cons, List.length_nil, List.length_set, List.length_replicate, Int.toNat_natCast]; omega)) [szT3, agT3, unT3, zoT3, byT3, idf_Wd', h290]; rfl) ?_)
              refine ⟨M - (i + 1), by omega, i + 1, o.set i (gt (trimW (u.take n)) i / 2 ^ k + gt (trimW (u.take n)) (i + 1) % 2 ^ k * 2 ^ (64 - k)), rfl, by omega, by simp [hol2], dO.set _ od.2.1 od.2.2, ?_, ?_, by simp [h10], by simp [h13], by simp [h28], by simp [h289], by simp (disch := omega) [h290], by simp [hzz], by simp (disch := omega) [hO], rfl⟩
              · intro x hx
                by_cases hxi : x = i
                · subst hxi; rw [gt_set (by omega)]
                · rw [gt_set_ne (by omega)]; exact hs1 x (by omega)
              · intro x hx hx2
                rw [gt_set_ne (by omega)]; exact hs2 x (by omega) hx2
        · try simp only [decide_eq_true_eq, decide_eq_false_iff_not] at h291
          have hin : i = M := by omega
          rw [hin] at hs1
          have hrd := rest_down (a := a) (d := d) (k := k) (n := n) hk hKn.dig (by omega) f2 hltn dO (by omega) (by rw [← hM]; exact hs1)
          rw [← hM] at hrd
          have t1 : trimW out = mag ((a / d : Nat) : Int) := by rw [mag_of hKn.dout, f1]
          refine AWP.exit ?_
          refine hK76 _ ?_
          refine AWP.seqk fun K85 hK85 => ?_
          refine AWP.region ?_
          refine AOPS.runk 1 (by simp (disch := first | omega | (simp only [List.length_append, List.length_cons, List.length_nil, List.length_set, List.length_replicate, Int.toNat_natCast]; omega)) [List.take_succ_cons, List.take_zero, idf_Wd', h13, h28]; rfl) ?_
          simp only [List.drop_succ_cons, List.drop_zero]
          refine AOPS.frz1 322 io 1 (wd .u64 out) (Wd .u64 out) (by simp (disch := omega) [hO]) (by simp [h13, ← hol]; first | exact fz_wd rfl | exact isl_take_wd (Nat.le_refl _)) ?_
          refine AOPS.fcall (trim_fc out (by omega)) rfl rfl rfl hb113 (by simp (disch := first | omega | (simp only [List.length_append, List.length_cons, List.length_nil, List.length_set, List.length_replicate, Int.toNat_natCast]; omega)) [idf_Wd', h13, h28, idf_Wd']) (by simp (disch := first | omega | (simp only [List.length_append, List.length_cons, List.length_nil, List.length_set, List.length_replicate, Int.toNat_natCast]; omega)) [h13, h28]) (by simp) ?_
          simp only [puts_some, updo]
          refine AOPS.runk 1 (by simp (disch := first | omega | (simp only [List.length_append, List.length_cons, List.length_nil, List.length_set, List.length_replicate, Int.toNat_natCast]; omega)) [List.take_succ_cons, List.take_zero, idf_Wd', h13, h28]; rfl) ?_
          simp only [List.drop_succ_cons, List.drop_zero]
          refine AOPS.frz1 324 iu 1 (wd .u64 o) (Wd .u64 (o.take M)) (by simp (disch := omega) [hU]) (by simp [h28]; exact fz_wdt (by omega)) ?_
          refine AOPS.fcall (trim_fc (o.take M) (by simp; omega)) rfl rfl rfl hb113 (by simp (disch := first | omega | (simp only [List.length_append, List.length_cons, List.length_nil, List.length_set, List.length_replicate, Int.toNat_natCast]; omega)) [idf_Wd', h13, h28, idf_Wd']) (by simp (disch := first | omega | (simp only [List.length_append, List.length_cons, List.length_nil, List.length_set, List.length_replicate, Int.toNat_natCast]; omega)) [h13, h28]) (by simp) ?_
          simp only [puts_some, updo]
          refine AOPS.all (by simp (disch := first | omega | (simp only [List.length_append, List.length_cons, List.length_nil, List.length_set, List.length_replicate, Int.toNat_natCast]; omega)) [idf_Wd', h13, h28]; rfl) ?_
          refine hK85 _ ?_
          refine AWP.ret ?_
          exact hK _ _ _ _ trivial ((Fin.mk (r := .tup [Wd .u64 (trimW out), Wd .u64 (trimW (o.take M))]) (by simp [aRes, aResL, aRes1, idf_Wd'])).cast (by rw [t1, hrd.2]))

end Go.Proofs.Ytdcggmbnjonemaa

/- Walks: the greatest common divisor. -/
namespace Go.Proofs.Ytdcggmbnjonemaa
open Go Go.RowKit
set_option linter.unusedSimpArgs false
set_option linter.unusedVariables false
set_option maxRecDepth 100000
attribute [local simp] List.getElem?_cons_zero List.getElem?_cons_succ List.getElem?_toArray runOps stepOp.eq_def agd.eq_def dstOk.eq_def opVal.eq_def opNew.eq_def opSto.eq_def ev.eq_def cv.eq_def puts_some puts_none upd_ap lst.eq_def aBin.eq_def aUn.eq_def aBi_str aBi_isl aBi_osl aBi_nsl aBi_max aBi_min aBi_max3 aConv.eq_def aLd.eq_def aLoad.eq_def aField.eq_def aFld.eq_def aIdx_isl aIdx_osl aSlc_isl aSlc_osl aSlc_str aSlc_nsl bnd.eq_def evs_nil evs_cons aBuild.eq_def aFill splice.eq_def cells_agg cells_int cells_bool cells_str cells_nil cells_nsl cells_isl cells_osl cells_ptr cells_ip cells_fn cells_Wd one_int one_bool one_str one_nil one_nsl one_isl one_osl one_ptr one_ip one_fn one_Wd aSets hupd_eq hupd_ne wrap_i64s wrap_u64s wrap_u32s wrap_u8s wd_getD wd_set wd_len wd_replicate wd_one wd_fold fz_osl hupd_same aSix.eq_def aEqS.eq_def aEqB_bool aEqB_nsl aEqB_nil

set_option maxHeartbeats 2000000 in
theorem gcd_fc {j : Nat} (zs : List Int) (hz : ∀ z ∈ zs, Bg j z) (hj : j ≤ 68719476736) (hl : zs.length ≤ 1099511627776) : FC Try.prog 64 [.isl (zs.map numC)] (numI ((gcdL zs : Nat) : Int)) := by
  refine FC.body Try.func64 rfl (by simp [idfL, idf, idfLL_iff, numC, idf_Wd']) (by simp [idfL, idf, idfLL_iff, idf_Wd', idf_numI, cells_numI, numI_fold]) 37 rfl fun nx K hK => ?_
  refine AWP.seqk fun K1 hK1 => ?_
  refine AWP.region (AOPS.all (by simp (disch := first | omega | (simp only [List.length_append, List.length_cons, List.length_nil, List.length_set, List.length_replicate, Int.toNat_natCast]; omega)) [szT4, agT4, unT4, zoT4, byT4, szT97, agT97, elT97, unT97, zoT97, byT97, szT99, agT99, flT99, zoT99, byT99, fdT99_0, fdT99_1, idf_Wd', idf_numI, cells_numI, numI_fold]; rfl) ?_)
  refine hK1 _ ?_
  refine AWP.seqk fun K2 hK2 => ?_
  refine AWP.region (AOPS.all (by simp (disch := first | omega | (simp only [List.length_append, List.length_cons, List.length_nil, List.length_set, List.length_replicate, Int.toNat_natCast]; omega)) [szT4, agT4, unT4, zoT4, byT4, szT97, agT97, elT97, unT97, zoT97, byT97, szT99, agT99, flT99, zoT99, byT99, fdT99_0, fdT99_1, idf_Wd', idf_numI, cells_numI, numI_fold]; rfl) ?_)
  refine hK2 _ ?_
  refine AWP.seqk fun K3 hK3 => ?_
  refine AWP.seqk fun K4 hK4 => ?_
  refine AWP.region (AOPS.all (by simp (disch := first | omega | (simp only [List.length_append, List.length_cons, List.length_nil, List.length_set, List.length_replicate, Int.toNat_natCast]; omega)) [szT99, agT99, flT99, zoT99, byT99, szT162, agT162, elT162, unT162, zoT162, byT162, idf_Wd', idf_numI, cells_numI, numI_fold]; rfl) ?_)
  refine hK4 _ ?_
  refine AWP.block ?_
  refine AWP.loop (fun N s => ∃ (i : Nat) (X : AV), N = zs.length - i ∧ i ≤ zs.length ∧ (X = .nsl ∧ i = 0 ∨ X = Wd .u64 (mag ((gcdL (zs.take i) : Nat) : Int))) ∧ s.env 2 = .ptr nx 0 0 ∧ s.env 3 = .ptr (nx + 1) 0 0 ∧ s.env 11 = .isl (zs.map numC) ∧ s.env 12 = .int .i64 (zs.length : Int) ∧ s.env 13 = .int .i64 (i : Int) ∧ s.heap nx = some (2, [[.bool false, .nsl]]) ∧ s.heap (nx + 1) = some (2, [[.bool false, X]]) ∧ nx + 1 < s.nx ∧ s.nt = 37) (zs.length) (⟨0, .nsl, by omega, by omega, .inl ⟨rfl, rfl⟩, by simp, by simp, by simp, by simp, by simp, by simp, by simp, by simp, rfl⟩) ?_
  rintro N ⟨e, H, mm, nt⟩ ⟨i, X, rfl, hi, hX, h2, h3, h11, h12, h13, hA, hB, hm, rfl⟩
  simp only [] at h2 h3 h11 h12 h13 hA hB hm
  refine AWP.seqk fun K5 hK5 => ?_
  refine AWP.region (AOPS.all (by simp (disch := first | omega | (simp only [List.length_append, List.length_cons, List.length_nil, List.length_set, List.length_replicate, Int.toNat_natCast]; omega)) [szT3, agT3, unT3, zoT3, byT3, idf_Wd', idf_numI, cells_numI, numI_fold, h12, h13]; rfl) ?_)
  refine hK5 _ ?_
  refine AWP.seqk fun K6 hK6 => ?_
  refine cond_ok _ (by simp (disch := first | omega | (simp only [List.length_append, List.length_cons, List.length_nil, List.length_set, List.length_replicate, Int.toNat_natCast]; omega)); rfl) (fun h14 => ?_) (fun h14 => ?_)
  · try simp only [decide_eq_true_eq, decide_eq_false_iff_not] at h14
    have hi' : i < zs.length := by omega
    have hzi : zs[i]? = some (gt zs i) := gt_some hi'
    have hmem : gt zs i ∈ zs := List.mem_of_getElem? hzi
    have bz := hz _ hmem
    have bg := gcdL_bg zs hz i
    have hmi : (zs.map numC)[i]? = some (numC (gt zs i)) := by rw [List.getElem?_map, hzi]; rfl
    refine AWP.skip ?_
    refine hK6 _ ?_
    refine AWP.seqk fun K7 hK7 => ?_
    refine AWP.block ?_
    refine AWP.seqk fun K8 hK8 => ?_
    refine AWP.region (AOPS.all (by simp (disch := first | omega | (simp only [List.length_append, List.length_cons, List.length_nil, List.length_set, List.length_replicate, Int.toNat_natCast]; omega)) [szT4, agT4, unT4, zoT4, byT4, szT97, agT97, elT97, unT97, zoT97, byT97, szT99, agT99, flT99, zoT99, byT99, szT162, agT162, elT162, unT162, zoT162, byT162, fdT99_0, fdT99_1, if_pos, idf_Wd', idf_numI, cells_numI, numI_fold, h11, h13, hmi, numC, hm]; rfl) ?_)
    refine hK8 _ ?_
    refine AWP.seqk fun K9 hK9 => ?_
    have hne : nx + 1 ≠ mm := by omega
    have hne2 : mm ≠ nx + 1 := by omega
    refine AWP.drawF 4 Try.checked.mixed (by kernel_rfl) (by simp (disch := first | omega | (simp only [List.length_append, List.length_cons, List.length_nil, List.length_set, List.length_replicate, Int.toNat_natCast]; omega)) [runDf.eq_def, runF1, runF2, stepF.eq_def, updo.eq_def, hupo.eq_def, opSto1.eq_def, szT4, agT4, unT4, zoT4, byT4, szT31, agT31, unT31, zoT31, byT31, szT97, agT97, elT97, unT97, zoT97, byT97, szT99, agT99, flT99, zoT99, byT99, fdT99_0, fdT99_1, idf_Wd', idf_numI, cells_numI, numI_fold, h3, hB, Nat.ne_of_lt hm, numC]; rfl) ?_
    refine hK9 _ ?_
    refine AWP.seqk fun K10 hK10 => ?_
    refine AWP.block ?_
    refine AWP.weakE 6 (Wd .u64 (mag ((gcdL (zs.take i) : Nat) : Int))) (by
      rcases hX with ⟨rfl, h0⟩ | rfl
      · simp only [upd_ap]; intro w β b v hv
        have hv' : VR w β b .nsl v := by simpa using hv
        have : mag ((gcdL (zs.take i) : Nat) : Int) = [] := by rw [h0]; exact mag_zero
        rw [this]; exact nsl_Wd .u64 hv'
      · intro w β b v hv; simpa [upd_ap] using hv) ?_
    refine AWP.loop (fun N s => ∃ x y : Nat, N = y ∧ Nat.gcd x y = Nat.gcd (gcdL (zs.take i)) (gt zs i).natAbs ∧ Bg j x ∧ Bg j y ∧ s.env 2 = .ptr nx 0 0 ∧ s.env 3 = .ptr (nx + 1) 0 0 ∧ s.env 11 = .isl (zs.map numC) ∧ s.env 12 = .int .i64 (zs.length : Int) ∧ s.env 13 = .int .i64 (i : Int) ∧ s.env 6 = Wd .u64 (mag (x : Int)) ∧ s.env 7 = Wd .u64 (mag (y : Int)) ∧ s.heap nx = some (2, [[.bool false, .nsl]]) ∧ s.heap (nx + 1) = some (2, [[.bool false, X]]) ∧ nx + 1 < s.nx ∧ s.nt = 37) ((gt zs i).natAbs) (⟨gcdL (zs.take i), (gt zs i).natAbs, rfl, rfl, bg, bz.abs, by simp [h2], by simp [h3], by simp [h11], by simp [h12], by simp [h13], by simp, by simp [mag_abs], by simp (disch := omega) [hA], by simp (disch := omega) [hB], by simp; omega, rfl⟩) ?_
    clear h2 h3 h11 h12 h13 hA hB
    rintro N ⟨e, H, mm2, nt⟩ ⟨x, y, rfl, hg, bx, bY, h2, h3, h11, h12, h13, h6, h7, hA, hB, hm2, rfl⟩
    simp only [] at h2 h3 h11 h12 h13 h6 h7 hA hB hm2
    refine AWP.seqk fun K11 hK11 => ?_
    refine AWP.seqk fun K12 hK12 => ?_
    refine AWP.region (AOPS.all (by simp (disch := first | omega | (simp only [List.length_append, List.length_cons, List.length_nil, List.length_set, List.length_replicate, Int.toNat_natCast]; omega)) [szT3, agT3, unT3, zoT3, byT3, szT31, agT31, unT31, zoT31, byT31, szT97, agT97, elT97, unT97, zoT97, byT97, len_Wd (P := Try.prog) #[97] rfl elT97, idf_Wd', idf_numI, cells_numI, numI_fold, h7]; rfl) ?_)
    refine hK12 _ ?_
    refine cond_ok _ (by simp (disch := first | omega | (simp only [List.length_append, List.length_cons, List.length_nil, List.length_set, List.length_replicate, Int.toNat_natCast]; omega)); rfl) (fun h23 => ?_) (fun h23 => ?_)
    · try simp only [decide_eq_true_eq, decide_eq_false_iff_not] at h23
      have hy : N ≠ 0 := fun h => by
        subst h
        simp [mag_zero] at h23
      refine AWP.skip ?_
      refine hK11 _ ?_
      refine AWP.block ?_
      refine AWP.seqk fun K13 hK13 => ?_
      refine AWP.region ?_
      refine AOPS.runk 2 (by simp (disch := first | omega | (simp only [List.length_append, List.length_cons, List.length_nil, List.length_set, List.length_replicate, Int.toNat_natCast]; omega)) [List.take_succ_cons, List.take_zero, idf_Wd', idf_numI, cells_numI, numI_fold, h6, h7]; rfl) ?_
      simp only [List.drop_succ_cons, List.drop_zero]
      refine AOPS.fcall (divWords_fc x N hy (Nat.le_trans bx.len hj) (Nat.le_trans bY.len hj)) rfl rfl rfl hb118 (by simp (disch := first | omega | (simp only [List.length_append, List.length_cons, List.length_nil, List.length_set, List.length_replicate, Int.toNat_natCast]; omega)) [idf_Wd', h6, h7, idf_Wd', idf_numI, cells_numI, numI_fold]) (by simp (disch := first | omega | (simp only [List.length_append, List.length_cons, List.length_nil, List.length_set, List.length_replicate, Int.toNat_natCast]; omega)) [h6, h7]) (by simp) ?_
      simp only [puts_some, updo]
      refine AOPS.all (by simp (disch := first | omega | (simp only [List.length_append, List.length_cons, List.length_nil, List.length_set, List.length_replicate, Int.toNat_natCast]; omega)) [idf_Wd', idf_numI, cells_numI, numI_fold, h6, h7]; rfl) ?_
      refine hK13 _ ?_
      refine AWP.region ?_
      refine AOPS.runk 2 (by simp (disch := first | omega | (simp only [List.length_append, List.length_cons, List.length_nil, List.length_set, List.length_replicate, Int.toNat_natCast]; omega)) [List.take_succ_cons, List.take_zero, idf_Wd', idf_numI, cells_numI, numI_fold, h7]; rfl) ?_
      simp only [List.drop_succ_cons, List.drop_zero]
      refine AOPS.fcall (clone_fc (mag ((x % N : Nat) : Int)) (by have := (bY.mod x hy).len; omega)) rfl rfl rfl hb115 (by simp (disch := first | omega | (simp only [List.length_append, List.length_cons, List.length_nil, List.length_set, List.length_replicate, Int.toNat_natCast]; omega)) [idf_Wd', h7, idf_Wd', idf_numI, cells_numI, numI_fold]) (by simp (disch := first | omega | (simp only [List.length_append, List.length_cons, List.length_nil, List.length_set, List.length_replicate, Int.toNat_natCast]; omega)) [h7]) (by simp) ?_
      simp only [puts_some, updo]
      refine AOPS.all (by simp (disch := first | omega | (simp only [List.length_append, List.length_cons, List.length_nil, List.length_set, List.length_replicate, Int.toNat_natCast]; omega)) [idf_Wd', idf_numI, cells_numI, numI_fold, h7]; rfl) ?_
      refine ⟨x % N, Nat.mod_lt _ (by omega), N, x % N, rfl, by rw [← hg, Nat.gcd_comm N, ← Nat.gcd_rec, Nat.gcd_comm], bY, bY.mod x (by omega), by simp [h2], by simp [h3], by simp [h11], by simp [h12], by simp [h13], by simp [h7], by simp, by simp [hA], by simp [hB], by simpa using hm2, rfl⟩
    · try simp only [decide_eq_true_eq, decide_eq_false_iff_not] at h23
      have hy : N = 0 := by
        have : (mag (N : Int)).length = 0 := by omega
        rw [mag_len0] at this; omega
      subst hy
      rw [Nat.gcd_zero_right] at hg
      rw [hg] at h6
      refine AWP.exit ?_
      refine hK10 _ ?_
      refine AWP.region (AOPS.all (by simp (disch := first | omega | (simp only [List.length_append, List.length_cons, List.length_nil, List.length_set, List.length_replicate, Int.toNat_natCast]; omega)) [szT4, agT4, unT4, zoT4, byT4, szT97, agT97, elT97, unT97, zoT97, byT97, szT99, agT99, flT99, zoT99, byT99, fdT99_0, fdT99_1, idf_Wd', idf_numI, cells_numI, numI_fold, h3, h6, hB]; rfl) ?_)
      refine hK7 _ ?_
      refine AWP.region (AOPS.all (by simp (disch := first | omega | (simp only [List.length_append, List.length_cons, List.length_nil, List.length_set, List.length_replicate, Int.toNat_natCast]; omega)) [szT3, agT3, unT3, zoT3, byT3, idf_Wd', idf_numI, cells_numI, numI_fold, h13]; rfl) ?_)
      have hgz := gcdL_succ zs hi'
      refine ⟨zs.length - (i + 1), by omega, i + 1, Wd .u64 (mag ((gcdL (zs.take (i + 1)) : Nat) : Int)), rfl, by omega, .inr rfl, by simp [h2], by simp [h3], by simp [h11], by simp [h12], by simp (disch := omega) [h13], by simp (disch := omega) [hA], by simp [hgz, ← hg], by simpa using hm2, rfl⟩
  · try simp only [decide_eq_true_eq, decide_eq_false_iff_not] at h14
    have hin : i = zs.length := by omega
    refine AWP.exit ?_
    refine hK3 _ ?_
    refine AWP.seqk fun K14 hK14 => ?_
    rcases hX with ⟨rfl, h0⟩ | rfl
    · have hz0 : zs = [] := List.length_eq_zero_iff.mp (by omega)
      refine AWP.region (AOPS.all (by simp (disch := first | omega | (simp only [List.length_append, List.length_cons, List.length_nil, List.length_set, List.length_replicate, Int.toNat_natCast]; omega)) [szT4, agT4, unT4, zoT4, byT4, szT97, agT97, elT97, unT97, zoT97, byT97, szT99, agT99, flT99, zoT99, byT99, fdT99_0, fdT99_1, idf_Wd', idf_numI, cells_numI, numI_fold, h2, h3, hA, hB]; rfl) ?_)
      refine hK14 _ ?_
      refine AWP.ret ?_
      exact hK _ _ _ _ trivial ((Fin.mk (r := .agg [.bool false, .nsl]) (by simp [aRes, aResL, aRes1, h2, szT99, agT99, idf_Wd', idf_numI, cells_numI, numI_fold])).weak (by rw [hz0]; exact fun _ _ _ _ => num0_weak))
    · rw [hin, List.take_length] at hB
      refine AWP.region (AOPS.all (by simp (disch := first | omega | (simp only [List.length_append, List.length_cons, List.length_nil, List.length_set, List.length_replicate, Int.toNat_natCast]; omega)) [szT4, agT4, unT4, zoT4, byT4, szT97, agT97, elT97, unT97, zoT97, byT97, szT99, agT99, flT99, zoT99, byT99, fdT99_0, fdT99_1, idf_Wd', idf_numI, cells_numI, numI_fold, h2, h3, hA, hB]; rfl) ?_)
      refine hK14 _ ?_
      refine AWP.ret ?_
      exact hK _ _ _ _ trivial ((Fin.mk (r := .agg [.bool false, Wd .u64 (mag ((gcdL zs : Nat) : Int))]) (by simp [aRes, aResL, aRes1, h2, szT99, agT99, idf_Wd', idf_numI, cells_numI, numI_fold])).cast (by unfold numI; simp))

end Go.Proofs.Ytdcggmbnjonemaa
