/- Walks: numbers of 64 bits: products, lengths, quotients. -/
import Derived.Test.YtmaebeknmiomnaaG0W

namespace Go.Proofs.Ytmaebeknmiomnaa
open Go Go.RowKit
set_option linter.unusedSimpArgs false
set_option linter.unusedVariables false
set_option maxRecDepth 100000
attribute [local simp] List.getElem?_cons_zero List.getElem?_cons_succ List.getElem?_toArray runOps stepOp.eq_def agd.eq_def dstOk.eq_def opVal.eq_def opNew.eq_def opSto.eq_def ev.eq_def cv.eq_def puts_some puts_none upd_ap lst.eq_def aBin.eq_def aUn.eq_def aBi_str aBi_isl aBi_osl aBi_nsl aBi_max aBi_min aBi_max3 aConv.eq_def aLd.eq_def aLoad.eq_def aField.eq_def aFld.eq_def aIdx_isl aIdx_osl aSlc_isl aSlc_osl aSlc_str aSlc_nsl bnd.eq_def evs_nil evs_cons aBuild.eq_def aFill splice.eq_def cells_agg cells_int cells_bool cells_str cells_nil cells_nsl cells_isl cells_osl cells_ptr cells_ip cells_fn cells_Wd one_int one_bool one_str one_nil one_nsl one_isl one_osl one_ptr one_ip one_fn one_Wd aSets hupd_eq hupd_ne wrap_i64s wrap_u64s wrap_u32s wrap_u8s wd_getD wd_set wd_len wd_replicate wd_one wd_fold fz_osl hupd_same aSix.eq_def aEqS.eq_def aEqB_bool aEqB_nsl aEqB_nil
attribute [local simp] szT3 byT3 agT3 unT3 zoT3 szT5 byT5 agT5 unT5 zoT5 szT9 byT9 agT9 stT9 zoT9 szT24 byT24 agT24 unT24 zoT24

set_option maxHeartbeats 1000000 in
theorem mul64_fc (x y : Int) (hx0 : 0 ≤ x) (hx : x < 18446744073709551616) (hy0 : 0 ≤ y) (hy : y < 18446744073709551616) : FC Try.prog 177 [.int .u64 x, .int .u64 y] (.tup [.int .u64 (x * y / 18446744073709551616), .int .u64 (x * y % 18446744073709551616)]) := by
  refine FC.body Try.func177 rfl (by simp [idfL, idf, idfLL_iff, wrap_u64m, and_low32, IntKind.bits, Int.fdiv_eq_ediv_of_nonneg]) (by simp [idfL, idf, idfLL_iff, wrap_u64m, and_low32, IntKind.bits, Int.fdiv_eq_ediv_of_nonneg]) 51 rfl fun nx K hK => ?_
  refine AWP.seqk fun K1 hK1 => ?_
  refine AWP.region (AOPS.all (by simp (disch := first|omega|(simp only[ln];omega)) [wrap_u64m, and_low32, IntKind.bits, Int.fdiv_eq_ediv_of_nonneg]; rfl) ?_)
  refine hK1 _ ?_
  refine AWP.seqk fun K2 hK2 => ?_
  refine AWP.region (AOPS.all (by simp (disch := first|omega|(simp only[ln];omega)) [wrap_u64m, and_low32, IntKind.bits, Int.fdiv_eq_ediv_of_nonneg]; rfl) ?_)
  refine hK2 _ ?_
  refine AWP.seqk fun K3 hK3 => ?_
  refine AWP.region (AOPS.all (by simp (disch := first|omega|(simp only[ln];omega)) [wrap_u64m, and_low32, IntKind.bits, Int.fdiv_eq_ediv_of_nonneg]; rfl) ?_)
  refine hK3 _ ?_
  refine AWP.seqk fun K4 hK4 => ?_
  refine AWP.region (AOPS.all (by simp (disch := first|omega|(simp only[ln];omega)) [wrap_u64m, and_low32, IntKind.bits, Int.fdiv_eq_ediv_of_nonneg]; rfl) ?_)
  refine hK4 _ ?_
  refine AWP.seqk fun K5 hK5 => ?_
  refine AWP.region (AOPS.all (by simp (disch := first|omega|(simp only[ln];omega)) [wrap_u64m, and_low32, IntKind.bits, Int.fdiv_eq_ediv_of_nonneg]; rfl) ?_)
  refine hK5 _ ?_
  refine AWP.seqk fun K6 hK6 => ?_
  refine AWP.region (AOPS.all (by simp (disch := first|omega|(simp only[ln];omega)) [wrap_u64m, and_low32, IntKind.bits, Int.fdiv_eq_ediv_of_nonneg]; rfl) ?_)
  refine hK6 _ ?_
  refine AWP.seqk fun K7 hK7 => ?_
  refine AWP.region (AOPS.all (by simp (disch := first|omega|(simp only[ln];omega)) [wrap_u64m, and_low32, IntKind.bits, Int.fdiv_eq_ediv_of_nonneg]; rfl) ?_)
  refine hK7 _ ?_
  refine AWP.seqk fun K8 hK8 => ?_
  refine AWP.region (AOPS.all (by simp (disch := first|omega|(simp only[ln];omega)) [wrap_u64m, and_low32, IntKind.bits, Int.fdiv_eq_ediv_of_nonneg]; rfl) ?_)
  refine hK8 _ ?_
  refine AWP.seqk fun K9 hK9 => ?_
  refine AWP.region (AOPS.all (by simp (disch := first|omega|(simp only[ln];omega)) [wrap_u64m, and_low32, IntKind.bits, Int.fdiv_eq_ediv_of_nonneg]; rfl) ?_)
  refine hK9 _ ?_
  refine AWP.seqk fun K10 hK10 => ?_
  refine AWP.region (AOPS.all (by simp (disch := first|omega|(simp only[ln];omega)) [wrap_u64m, and_low32, IntKind.bits, Int.fdiv_eq_ediv_of_nonneg]; rfl) ?_)
  refine hK10 _ ?_
  refine AWP.seqk fun K11 hK11 => ?_
  refine AWP.region (AOPS.all (by simp (disch := first|omega|(simp only[ln];omega)) [wrap_u64m, and_low32, IntKind.bits, Int.fdiv_eq_ediv_of_nonneg]; rfl) ?_)
  refine hK11 _ ?_
  refine AWP.seqk fun K12 hK12 => ?_
  refine AWP.region (AOPS.all (by simp (disch := first|omega|(simp only[ln];omega)) [wrap_u64m, and_low32, IntKind.bits, Int.fdiv_eq_ediv_of_nonneg]; rfl) ?_)
  refine hK12 _ ?_
  refine AWP.ret ?_
  exact hK _ _ _ _ trivial ((Fin.mk (by simp (disch := omega) [aRes, aResL, aRes1, wrap_u64m, and_low32, IntKind.bits, Int.fdiv_eq_ediv_of_nonneg]; rfl)).cast (by rw [mul64_hi x y hx0 hx hy0 hy]))

set_option maxHeartbeats 1000000 in
theorem len64_fc (x : Nat) (hx : x < 18446744073709551616) : FC Try.prog 213 [.int .u64 (x : Int)] (.int .i64 (bitLen x : Int)) := by
  refine FC.body Try.func213 rfl (by simp [idfL, idf, idfLL_iff, IntKind.bits, Int.fdiv_eq_ediv_of_nonneg]) (by simp [idfL, idf, idfLL_iff, IntKind.bits, Int.fdiv_eq_ediv_of_nonneg]) 25 rfl fun nx K hK => ?_
  refine AWP.seqk fun K1 hK1 => ?_
  refine AWP.region (AOPS.all (by simp (disch := first|omega|(simp only[ln];omega)) [IntKind.bits, Int.fdiv_eq_ediv_of_nonneg]; rfl) ?_)
  refine hK1 _ ?_
  refine AWP.seqk fun K2 hK2 => ?_
  have J2 : ∀ s : St, (∃ y n : Nat, s.env 0 = .int .u64 (y : Int) ∧ s.env 2 = .int .i64 (n : Int) ∧ y < 4294967296 ∧ n ≤ 32 ∧ n + bitLen y = bitLen x ∧ s.heap = (fun _ => none) ∧ s.nt = 25) → K2 s := by
    rintro ⟨e, H, nx, nt⟩ ⟨y, n, h0, h2, hy, hn, hb, rfl, rfl⟩
    simp only [] at h0 h2
    refine hK2 _ ?_
    refine AWP.seqk fun K3 hK3 => ?_
    have J3 : ∀ s : St, (∃ y n : Nat, s.env 0 = .int .u64 (y : Int) ∧ s.env 2 = .int .i64 (n : Int) ∧ y < 65536 ∧ n ≤ 48 ∧ n + bitLen y = bitLen x ∧ s.heap = (fun _ => none) ∧ s.nt = 25) → K3 s := by
      clear h0 h2 hb
      rintro ⟨e, H, nx, nt⟩ ⟨y, n, h0, h2, hy, hn, hb, rfl, rfl⟩
      simp only [] at h0 h2
      refine hK3 _ ?_
      refine AWP.seqk fun K4 hK4 => ?_
      have J4 : ∀ s : St, (∃ y n : Nat, s.env 0 = .int .u64 (y : Int) ∧ s.env 2 = .int .i64 (n : Int) ∧ y < 256 ∧ n ≤ 56 ∧ n + bitLen y = bitLen x ∧ s.heap = (fun _ => none) ∧ s.nt = 25) → K4 s := by
        clear h0 h2 hb
        rintro ⟨e, H, nx, nt⟩ ⟨y, n, h0, h2, hy, hn, hb, rfl, rfl⟩
        simp only [] at h0 h2
        have hl := bitLen_le8 y hy
        refine hK4 _ ?_
        refine AWP.seqk fun K5 hK5 => ?_
        refine AWP.region ?_
        refine AOPS.runk 3 (by simp (disch := first|omega|(simp only[ln];omega)) [List.take_succ_cons, List.take_zero, IntKind.bits, Int.fdiv_eq_ediv_of_nonneg, h0, h2]; rfl) ?_
        simp only [List.drop_succ_cons, List.drop_zero]
        refine AOPS.opval (.int .u8 (bitLen y : Int)) (by simp (disch := first|omega|(simp only[ln];omega)) [List.take_succ_cons, List.take_zero, IntKind.bits, Int.fdiv_eq_ediv_of_nonneg, h0, h2]; exact tab_of _ (by kernel_rfl) y hy) (by simp) (by simp) ?_
        simp only [puts_some]
        refine AOPS.all (by simp (disch := first|omega|(simp only[ln];omega)) [List.take_succ_cons, List.take_zero, IntKind.bits, Int.fdiv_eq_ediv_of_nonneg, h0, h2]; rfl) ?_
        refine hK5 _ ?_
        refine AWP.ret ?_
        exact hK _ _ _ _ trivial ((Fin.mk (by simp [aRes, aResL, aRes1]; rfl)).cast (by congr 1; omega))
      refine AWP.seqk fun K6 hK6 => ?_
      refine AWP.region (AOPS.all (by simp (disch := first|omega|(simp only[ln];omega)) [IntKind.bits, Int.fdiv_eq_ediv_of_nonneg, h0, h2]; rfl) ?_)
      refine hK6 _ ?_
      refine cond_ok _ (by simp (disch := first|omega|(simp only[ln];omega)); rfl) (fun h14 => ?_) (fun h14 => ?_)
      · try simp only [decide_eq_true_eq, decide_eq_false_iff_not] at h14
        refine AWP.seqk fun K7 hK7 => ?_
        refine AWP.region (AOPS.all (by simp (disch := first|omega|(simp only[ln];omega)) [IntKind.bits, Int.fdiv_eq_ediv_of_nonneg, h0, h2]; rfl) ?_)
        refine hK7 _ ?_
        refine AWP.region (AOPS.all (by simp (disch := first|omega|(simp only[ln];omega)) [IntKind.bits, Int.fdiv_eq_ediv_of_nonneg, h0, h2]; rfl) ?_)
        refine J4 _ ?_
        exact ⟨y / 256, n + 8, by simp [h0], by simp (disch := omega) [h2], by omega, by omega, by have h := bitLen_shift y 8 (by omega); rw [show (2 : Nat) ^ 8 = 256 from rfl] at h; omega, rfl, rfl⟩
      · try simp only [decide_eq_true_eq, decide_eq_false_iff_not] at h14
        refine AWP.skip ?_
        refine J4 _ ?_
        exact ⟨y, n, by simp [h0], by simp [h2], by omega, by omega, hb, rfl, rfl⟩
    refine AWP.seqk fun K8 hK8 => ?_
    refine AWP.region (AOPS.all (by simp (disch := first|omega|(simp only[ln];omega)) [IntKind.bits, Int.fdiv_eq_ediv_of_nonneg, h0, h2]; rfl) ?_)
    refine hK8 _ ?_
    refine cond_ok _ (by simp (disch := first|omega|(simp only[ln];omega)); rfl) (fun h8 => ?_) (fun h8 => ?_)
    · try simp only [decide_eq_true_eq, decide_eq_false_iff_not] at h8
      refine AWP.seqk fun K9 hK9 => ?_
      refine AWP.region (AOPS.all (by simp (disch := first|omega|(simp only[ln];omega)) [IntKind.bits, Int.fdiv_eq_ediv_of_nonneg, h0, h2]; rfl) ?_)
      refine hK9 _ ?_
      refine AWP.region (AOPS.all (by simp (disch := first|omega|(simp only[ln];omega)) [IntKind.bits, Int.fdiv_eq_ediv_of_nonneg, h0, h2]; rfl) ?_)
      refine J3 _ ?_
      exact ⟨y / 65536, n + 16, by simp [h0], by simp (disch := omega) [h2], by omega, by omega, by have h := bitLen_shift y 16 (by omega); rw [show (2 : Nat) ^ 16 = 65536 from rfl] at h; omega, rfl, rfl⟩
    · try simp only [decide_eq_true_eq, decide_eq_false_iff_not] at h8
      refine AWP.skip ?_
      refine J3 _ ?_
      exact ⟨y, n, by simp [h0], by simp [h2], by omega, by omega, hb, rfl, rfl⟩
  refine AWP.seqk fun K10 hK10 => ?_
  refine AWP.region (AOPS.all (by simp (disch := first|omega|(simp only[ln];omega)) [IntKind.bits, Int.fdiv_eq_ediv_of_nonneg]; rfl) ?_)
  refine hK10 _ ?_
  refine cond_ok _ (by simp (disch := first|omega|(simp only[ln];omega)); rfl) (fun h4 => ?_) (fun h4 => ?_)
  · try simp only [decide_eq_true_eq, decide_eq_false_iff_not] at h4
    refine AWP.seqk fun K11 hK11 => ?_
    refine AWP.region (AOPS.all (by simp (disch := first|omega|(simp only[ln];omega)) [IntKind.bits, Int.fdiv_eq_ediv_of_nonneg]; rfl) ?_)
    refine hK11 _ ?_
    refine AWP.region (AOPS.all (by simp (disch := first|omega|(simp only[ln];omega)) [IntKind.bits, Int.fdiv_eq_ediv_of_nonneg]; rfl) ?_)
    refine J2 _ ?_
    exact ⟨x / 4294967296, 32, by simp, by simp, by omega, by omega, (bitLen_shift x 32 (by omega)).symm, rfl, rfl⟩
  · try simp only [decide_eq_true_eq, decide_eq_false_iff_not] at h4
    refine AWP.skip ?_
    refine J2 _ ?_
    exact ⟨x, 0, by simp, by simp, by omega, by omega, by omega, rfl, rfl⟩

theorem lz64_fc (x : Nat) (hx : x < 18446744073709551616) : FC Try.prog 171 [.int .u64 (x : Int)] (.int .i64 (64 - (bitLen x : Int))) := by
  have hb : bitLen x ≤ 64 := by
    unfold bitLen; split
    · omega
    · rename_i h0
      have := (Nat.log2_lt h0).2 (show x < 2 ^ 64 from hx)
      omega
  refine FC.body Try.func171 rfl (by simp [idfL, idf, idfLL_iff]) (by simp [idfL, idf, idfLL_iff]) 6 rfl fun nx K hK => ?_
  refine AWP.seqk fun K1 hK1 => ?_
  refine AWP.region (AOPS.all (by simp (disch := first|omega|(simp only[ln];omega)); rfl) ?_)
  refine hK1 _ ?_
  refine AWP.seqk fun K2 hK2 => ?_
  refine AWP.region ?_
  refine AOPS.runk 1 (by simp (disch := first|omega|(simp only[ln];omega)) [List.take_succ_cons, List.take_zero]; rfl) ?_
  simp only [List.drop_succ_cons, List.drop_zero]
  refine AOPS.fcall (len64_fc x hx) rfl rfl rfl hb213 (by simp (disch := first|omega|(simp only[ln];omega)) [idf_Wd']) (by simp (disch := first|omega|(simp only[ln];omega))) (by simp) ?_
  simp only [puts_some, updo]
  refine AOPS.all (by simp (disch := first|omega|(simp only[ln];omega)); rfl) ?_
  refine hK2 _ ?_
  refine AWP.ret ?_
  exact hK _ _ _ _ trivial (Fin.mk (by simp (disch := first|omega|(simp only[ln];omega)) [aRes, aResL, aRes1]))

end Go.Proofs.Ytmaebeknmiomnaa

/- Walks: rows of words of the program. -/
namespace Go.Proofs.Ytmaebeknmiomnaa
open Go Go.RowKit
set_option linter.unusedSimpArgs false
set_option linter.unusedVariables false
set_option maxRecDepth 100000
attribute [local simp] List.getElem?_cons_zero List.getElem?_cons_succ List.getElem?_toArray runOps stepOp.eq_def agd.eq_def dstOk.eq_def opVal.eq_def opNew.eq_def opSto.eq_def ev.eq_def cv.eq_def puts_some puts_none upd_ap lst.eq_def aBin.eq_def aUn.eq_def aBi_str aBi_isl aBi_osl aBi_nsl aBi_max aBi_min aBi_max3 aConv.eq_def aLd.eq_def aLoad.eq_def aField.eq_def aFld.eq_def aIdx_isl aIdx_osl aSlc_isl aSlc_osl aSlc_str aSlc_nsl bnd.eq_def evs_nil evs_cons aBuild.eq_def aFill splice.eq_def cells_agg cells_int cells_bool cells_str cells_nil cells_nsl cells_isl cells_osl cells_ptr cells_ip cells_fn cells_Wd one_int one_bool one_str one_nil one_nsl one_isl one_osl one_ptr one_ip one_fn one_Wd aSets hupd_eq hupd_ne wrap_i64s wrap_u64s wrap_u32s wrap_u8s wd_getD wd_set wd_len wd_replicate wd_one wd_fold fz_osl hupd_same aSix.eq_def aEqS.eq_def aEqB_bool aEqB_nsl aEqB_nil
attribute [local simp] szT3 byT3 agT3 unT3 zoT3 szT24 byT24 agT24 unT24 zoT24 szT117 byT117 agT117 elT117 unT117 zoT117

theorem trim_fc (l : List Int) (hl : l.length ≤ 1099511627776) : FC Try.prog 176 [Wd .u64 l] (Wd .u64 (trimW l)) := by
  refine FC.body Try.func176 rfl (by simp [idfL, idf, idfLL_iff, idf_Wd']) (by simp [idfL, idf, idfLL_iff, idf_Wd']) 21 rfl fun nx K hK => ?_
  refine AWP.seqk fun K1 hK1 => ?_
  refine AWP.region (AOPS.all (by simp (disch := first|omega|(simp only[ln];omega)) [idf_Wd']; rfl) ?_)
  refine hK1 _ ?_
  refine AWP.seqk fun K2 hK2 => ?_
  refine AWP.block ?_
  refine AWP.loop (fun n s => ∃ l', n = l'.length ∧ l'.length ≤ l.length ∧ trimW l' = trimW l ∧ s.env 0 = Wd .u64 l' ∧ s.heap = (fun _ => none) ∧ s.nt = 21) (l.length) (⟨l, rfl, Nat.le_refl _, rfl, by simp, rfl, rfl⟩) ?_
  rintro n ⟨e, H, nx, nt⟩ ⟨l', rfl, hlen, ht, h0, rfl, rfl⟩
  simp only [] at h0
  refine AWP.seqk fun K3 hK3 => ?_
  refine AWP.seqk fun K4 hK4 => ?_
  rcases List.eq_nil_or_concat l' with rfl | ⟨l'', x, rfl⟩
  · refine AWP.region (AOPS.all (by simp (disch := first|omega|(simp only[ln];omega)) [idx_WdD (P := Try.prog) elT117 szT24, if_pos, len_Wd (P := Try.prog) #[117] rfl elT117, idf_Wd', h0]; rfl) ?_)
    refine hK4 _ ?_
    refine cond_ok _ (by simp (disch := first|omega|(simp only[ln];omega)); rfl) (fun h14 => ?_) (fun h14 => ?_)
    · simp at h14
    · try simp only [decide_eq_true_eq, decide_eq_false_iff_not] at h14
      refine AWP.exit ?_
      refine hK2 _ ?_
      refine AWP.seqk fun K5 hK5 => ?_
      refine AWP.region (AOPS.all (by simp (disch := first|omega|(simp only[ln];omega)) [idf_Wd', h0]; rfl) ?_)
      refine hK5 _ ?_
      refine AWP.ret ?_
      exact hK _ _ _ _ trivial (Fin.mk (r := Wd .u64 (trimW l)) (by simp [aRes, aResL, aRes1, ← ht, trimW]))
  · simp only [List.concat_eq_append, List.length_append, List.length_singleton] at hlen h0 ht
    have hg : gt (l'' ++ [x]) l''.length = x := by simp [gt]
    refine AWP.region (AOPS.all (by simp (disch := first|omega|(simp only[ln];omega)) [idx_WdD (P := Try.prog) elT117 szT24, if_pos, len_Wd (P := Try.prog) #[117] rfl elT117, idf_Wd', h0, hg, ld_ip agT24]; rfl) ?_)
    refine hK4 _ ?_
    refine cond_ok _ (by simp (disch := first|omega|(simp only[ln];omega)); rfl) (fun h14 => ?_) (fun h14 => ?_)
    · try simp only [decide_eq_true_eq, decide_eq_false_iff_not] at h14
      have hx : x = 0 := by simpa using h14
      refine AWP.skip ?_
      refine hK3 _ ?_
      refine AWP.block ?_
      refine AWP.region (AOPS.all (by simp (disch := first|omega|(simp only[ln];omega)) [if_pos, len_Wd (P := Try.prog) #[117] rfl elT117, idf_Wd', h0, slc_Wd (P := Try.prog) (k := .u64) (l := l'' ++ [x]) (lo := none) (hi := some (.int .i64 l''.length)) (a := 0) (b := l''.length) elT117 szT24 rfl (by simp [bnd]) (Nat.zero_le _) (by simp)]; rfl) ?_)
      refine ⟨l''.length, by simp, l'', rfl, by omega, ?_, by simp, rfl, rfl⟩
      rw [← ht, hx, trimW_concat_zero]
    · try simp only [decide_eq_true_eq, decide_eq_false_iff_not] at h14
      have hx : x ≠ 0 := by simpa using h14
      refine AWP.exit ?_
      refine hK2 _ ?_
      refine AWP.seqk fun K6 hK6 => ?_
      refine AWP.region (AOPS.all (by simp (disch := first|omega|(simp only[ln];omega)) [idf_Wd', h0]; rfl) ?_)
      refine hK6 _ ?_
      refine AWP.ret ?_
      exact hK _ _ _ _ trivial (Fin.mk (r := Wd .u64 (trimW l)) (by simp [aRes, aResL, aRes1, ← ht, trimW_concat_pos _ _ hx]))

theorem cmpWords_fc (a b : List Int) (ha : a.length ≤ 1099511627776) (hb : b.length ≤ 1099511627776) : FC Try.prog 190 [Wd .u64 a, Wd .u64 b] (.int .i64 (cmpI a b)) := by
  refine FC.body Try.func190 rfl (by simp [idfL, idf, idfLL_iff, idf_Wd']) (by simp [idfL, idf, idfLL_iff, idf_Wd']) 41 rfl fun nx K hK => ?_
  refine AWP.seqk fun K1 hK1 => ?_
  refine AWP.region (AOPS.all (by simp (disch := first|omega|(simp only[ln];omega)) [idf_Wd']; rfl) ?_)
  refine hK1 _ ?_
  refine AWP.seqk fun K2 hK2 => ?_
  refine AWP.seqk fun K3 hK3 => ?_
  refine AWP.region (AOPS.all (by simp (disch := first|omega|(simp only[ln];omega)) [len_Wd (P := Try.prog) #[117] rfl elT117, idf_Wd']; rfl) ?_)
  refine hK3 _ ?_
  refine cond_ok _ (by simp (disch := first|omega|(simp only[ln];omega)); rfl) (fun h10 => ?_) (fun h10 => ?_)
  · try simp only [decide_eq_true_eq, decide_eq_false_iff_not] at h10
    have hne : a.length ≠ b.length := by simp at h10; omega
    refine AWP.seqk fun K4 hK4 => ?_
    refine AWP.region (AOPS.all (by simp (disch := first|omega|(simp only[ln];omega)) [len_Wd (P := Try.prog) #[117] rfl elT117, idf_Wd']; rfl) ?_)
    refine hK4 _ ?_
    refine AWP.ret ?_
    exact hK _ _ _ _ trivial (Fin.mk (by simp (disch := omega) [aRes, aResL, aRes1, cmpI_ne hne]))
  · try simp only [decide_eq_true_eq, decide_eq_false_iff_not] at h10
    have hne : a.length = b.length := by simp at h10; omega
    refine AWP.skip ?_
    refine hK2 _ ?_
    refine AWP.seqk fun K5 hK5 => ?_
    refine AWP.seqk fun K6 hK6 => ?_
    refine AWP.region (AOPS.all (by simp (disch := first|omega|(simp only[ln];omega)) [len_Wd (P := Try.prog) #[117] rfl elT117, idf_Wd']; rfl) ?_)
    refine hK6 _ ?_
    refine AWP.block ?_
    refine AWP.loop (fun n s => n ≤ a.length ∧ cmpAt a b n = cmpAt a b a.length ∧ s.env 0 = Wd .u64 a ∧ s.env 1 = Wd .u64 b ∧ s.env 5 = .int .i64 ((n : Int) - 1) ∧ s.heap = (fun _ => none) ∧ s.nt = 41) (a.length) (⟨Nat.le_refl _, rfl, by simp, by simp, by simp (disch := omega), rfl, rfl⟩) ?_
    rintro n ⟨e, H, nx, nt⟩ ⟨hlen, ht, h0, h1, h5, rfl, rfl⟩
    simp only [] at h0 h1 h5
    refine AWP.seqk fun K7 hK7 => ?_
    refine AWP.seqk fun K8 hK8 => ?_
    refine AWP.region (AOPS.all (by simp (disch := first|omega|(simp only[ln];omega)) [idf_Wd', h5]; rfl) ?_)
    refine hK8 _ ?_
    refine cond_ok _ (by simp (disch := first|omega|(simp only[ln];omega)); rfl) (fun h20 => ?_) (fun h20 => ?_)
    · try simp only [decide_eq_true_eq, decide_eq_false_iff_not] at h20
      obtain ⟨m, rfl⟩ : ∃ m, n = m + 1 := ⟨n - 1, by omega⟩
      replace h5 : e 5 = .int .i64 (m : Int) := by simpa using h5
      refine AWP.skip ?_
      refine hK7 _ ?_
      refine AWP.seqk fun K9 hK9 => ?_
      refine AWP.block ?_
      refine AWP.seqk fun K10 hK10 => ?_
      refine AWP.drawF 9 Try.checked.mixed (by kernel_rfl) (by simp (disch := first|omega|(simp only[ln];omega)) [runDf.eq_def, runF1, runF2, stepF.eq_def, updo.eq_def, hupo.eq_def, opSto1.eq_def, idx_WdD (P := Try.prog) elT117 szT24, if_pos, idf_Wd', h0, h1, h5, ld_ip agT24]; rfl) ?_
      refine hK10 _ ?_
      refine cond_ok _ (by simp (disch := first|omega|(simp only[ln];omega)); rfl) (fun h31 => ?_) (fun h31 => ?_)
      · try simp only [decide_eq_true_eq, decide_eq_false_iff_not] at h31
        have hx : gt a m ≠ gt b m := by simpa using h31
        refine AWP.seqk fun K11 hK11 => ?_
        refine AWP.seqk fun K12 hK12 => ?_
        refine AWP.drawF 9 Try.checked.mixed (by kernel_rfl) (by simp (disch := first|omega|(simp only[ln];omega)) [runDf.eq_def, runF1, runF2, stepF.eq_def, updo.eq_def, hupo.eq_def, opSto1.eq_def, idx_WdD (P := Try.prog) elT117 szT24, if_pos, idf_Wd', h0, h1, h5, ld_ip agT24]; rfl) ?_
        refine hK12 _ ?_
        refine cond_ok _ (by simp (disch := first|omega|(simp only[ln];omega)); rfl) (fun h40 => ?_) (fun h40 => ?_)
        · try simp only [decide_eq_true_eq, decide_eq_false_iff_not] at h40
          refine AWP.seqk fun K13 hK13 => ?_
          refine AWP.region (AOPS.all (by simp (disch := first|omega|(simp only[ln];omega)) [idf_Wd']; rfl) ?_)
          refine hK13 _ ?_
          refine AWP.ret ?_
          exact hK _ _ _ _ trivial (Fin.mk (by simp [aRes, aResL, aRes1, cmpI_of hne, ← ht, cmpAt, hx, h40]))
        · try simp only [decide_eq_true_eq, decide_eq_false_iff_not] at h40
          refine AWP.skip ?_
          refine hK11 _ ?_
          refine AWP.seqk fun K14 hK14 => ?_
          refine AWP.region (AOPS.all (by simp (disch := first|omega|(simp only[ln];omega)) [idf_Wd']; rfl) ?_)
          refine hK14 _ ?_
          refine AWP.ret ?_
          exact hK _ _ _ _ trivial (Fin.mk (by simp [aRes, aResL, aRes1, cmpI_of hne, ← ht, cmpAt, hx, h40]))
      · try simp only [decide_eq_true_eq, decide_eq_false_iff_not] at h31
        have hx : gt a m = gt b m := by simpa using h31
        refine AWP.skip ?_
        refine hK9 _ ?_
        refine AWP.region (AOPS.all (by simp (disch := first|omega|(simp only[ln];omega)) [idf_Wd', h5]; rfl) ?_)
        exact ⟨m, by omega, by omega, by rw [← ht, cmpAt, if_pos hx], by simp [h0], by simp [h1], by simp (disch := omega), rfl, rfl⟩
    · try simp only [decide_eq_true_eq, decide_eq_false_iff_not] at h20
      obtain rfl : n = 0 := by omega
      refine AWP.exit ?_
      refine hK5 _ ?_
      refine AWP.seqk fun K15 hK15 => ?_
      refine AWP.region (AOPS.all (by simp (disch := first|omega|(simp only[ln];omega)) [idf_Wd']; rfl) ?_)
      refine hK15 _ ?_
      refine AWP.ret ?_
      exact hK _ _ _ _ trivial (Fin.mk (by simp [aRes, aResL, aRes1, cmpI_of hne, ← ht, cmpAt]))

theorem addWords_fc (a b : List Int) (ha : a.length ≤ 549755813888) (hb : b.length ≤ 549755813888) (da : Dig 18446744073709551616 a) (db : Dig 18446744073709551616 b) : FC Try.prog 175 [Wd .u64 a, Wd .u64 b] (Wd .u64 (digs 18446744073709551616 (val 18446744073709551616 a + val 18446744073709551616 b).toNat)) := by
  refine FC.body Try.func175 rfl (by simp [idfL, idf, idfLL_iff, idf_Wd']) (by simp [idfL, idf, idfLL_iff, idf_Wd']) 54 rfl fun nx K hK => ?_
  refine AWP.seqk fun K1 hK1 => ?_
  refine AWP.region (AOPS.all (by simp (disch := first|omega|(simp only[ln];omega)) [idf_Wd']; rfl) ?_)
  refine hK1 _ ?_
  refine AWP.seqk fun K2 hK2 => ?_
  have J2 : ∀ s : St, (∃ a' b', s.env 0 = Wd .u64 a' ∧ s.env 1 = Wd .u64 b' ∧ b'.length ≤ a'.length ∧ a'.length ≤ 549755813888 ∧ Dig 18446744073709551616 a' ∧ Dig 18446744073709551616 b' ∧ val 18446744073709551616 a' + val 18446744073709551616 b' = val 18446744073709551616 a + val 18446744073709551616 b ∧ s.heap = (fun _ => none) ∧ s.nt = 54) → K2 s := by
    rintro ⟨e, H, nx, nt⟩ ⟨a', b', h0, h1, hle, hlen, da', db', hv, rfl, rfl⟩
    simp only [] at h0 h1
    refine hK2 _ ?_
    refine AWP.seqk fun K3 hK3 => ?_
    refine AWP.region (AOPS.all (by simp (disch := first|omega|(simp only[ln];omega)) [if_pos, len_Wd (P := Try.prog) #[117] rfl elT117, idf_Wd', h0, h1]; rfl) ?_)
    refine hK3 _ ?_
    refine AWP.seqk fun K4 hK4 => ?_
    refine AWP.seqk fun K5 hK5 => ?_
    refine AWP.region (AOPS.all (by simp (disch := first|omega|(simp only[ln];omega)) [len_Wd (P := Try.prog) #[117] rfl elT117, idf_Wd', h0, h1]; rfl) ?_)
    refine hK5 _ ?_
    refine AWP.block ?_
    refine AWP.loop (fun n s => ∃ i out c, n = a'.length - i ∧ i ≤ a'.length ∧ out.length = a'.length + 1 ∧ Dig 18446744073709551616 out ∧ 0 ≤ c ∧ c ≤ 1 ∧ val 18446744073709551616 (out.take i) + c * (18446744073709551616 : Int) ^ i = val 18446744073709551616 (a'.take i) + val 18446744073709551616 (b'.take i) ∧ s.env 0 = Wd .u64 a' ∧ s.env 1 = Wd .u64 b' ∧ s.env 5 = .osl nx 0 (a'.length + 1) ∧ s.env 6 = .int .u64 c ∧ s.env 21 = .int .i64 a'.length ∧ s.env 22 = .int .i64 (i : Int) ∧ s.heap = hupd (fun _ => none) nx (some (1, wd .u64 out)) ∧ s.nt = 54) (a'.length) (⟨0, List.replicate (a'.length + 1) 0, 0, by omega, by omega, by simp, Dig.replicate _ (by omega) (by omega), by omega, by omega, by simp [val], by simp [h0], by simp [h1], by simp, by simp, by simp, by simp, by simp, rfl⟩) ?_
    rintro n ⟨e, H, nx2, nt⟩ ⟨i, out, c, rfl, hi, ho, hd, hc0, hc1, hval, h0, h1, h5, h6, h21, h22, rfl, rfl⟩
    simp only [] at h0 h1 h5 h6 h21 h22
    refine AWP.seqk fun K6 hK6 => ?_
    refine AWP.region (AOPS.all (by simp (disch := first|omega|(simp only[ln];omega)) [idf_Wd', h21, h22]; rfl) ?_)
    refine hK6 _ ?_
    refine AWP.seqk fun K7 hK7 => ?_
    refine cond_ok _ (by simp (disch := first|omega|(simp only[ln];omega)); rfl) (fun h23 => ?_) (fun h23 => ?_)
    · try simp only [decide_eq_true_eq, decide_eq_false_iff_not] at h23
      have hi' : i < a'.length := by omega
      refine AWP.skip ?_
      refine hK7 _ ?_
      refine AWP.seqk fun K8 hK8 => ?_
      refine AWP.block ?_
      refine AWP.seqk fun K9 hK9 => ?_
      refine AWP.region (AOPS.all (by simp (disch := first|omega|(simp only[ln];omega)) [idf_Wd', h22]; rfl) ?_)
      refine hK9 _ ?_
      refine AWP.seqk fun K10 hK10 => ?_
      refine AWP.region (AOPS.all (by simp (disch := first|omega|(simp only[ln];omega)) [idf_Wd']; rfl) ?_)
      refine hK10 _ ?_
      refine AWP.seqk fun K11 hK11 => ?_
      have J11 : ∀ s : St, (s.env 0 = Wd .u64 a' ∧ s.env 1 = Wd .u64 b' ∧ s.env 5 = .osl nx 0 (a'.length + 1) ∧ s.env 6 = .int .u64 c ∧ s.env 7 = .int .i64 (i : Int) ∧ s.env 8 = .int .u64 (gt b' i) ∧ s.env 21 = .int .i64 a'.length ∧ s.env 22 = .int .i64 (i : Int) ∧ s.heap = hupd (fun _ => none) nx (some (1, wd .u64 out)) ∧ s.nt = 54) → K11 s := by
        clear h0 h1 h5 h6 h21 h22
        rintro ⟨e, H, nx2, nt⟩ ⟨h0, h1, h5, h6, h7, h8, h21, h22, rfl, rfl⟩
        simp only [] at h0 h1 h5 h6 h7 h8 h21 h22
        refine hK11 _ ?_
        refine AWP.region ?_
        refine AOPS.runk 8 (by simp (disch := first|omega|(simp only[ln];omega)) [List.take_succ_cons, List.take_zero, idx_WdD (P := Try.prog) elT117 szT24, if_pos, idf_Wd', h0, h1, h5, h6, h7, h8, ho, ld_ip agT24]; rfl) ?_
        simp only [List.drop_succ_cons, List.drop_zero]
        refine AOPS.ecall (FE.add64 nb178 (gt a' i) (gt b' i) c (da'.gt (by omega) i).1 (db'.gt (by omega) i).1 hc0 hc1) rfl rfl rfl (by simp (disch := first|omega|(simp only[ln];omega)) [idf_Wd', h0, h1, h5, h6, h7, h8, ho, ld_ip agT24]) (by simp (disch := first|omega|(simp only[ln];omega)) [h0, h1, h5, h6, h7, h8, ho, ld_ip agT24]) (by simp) ?_
        simp only [puts_some, updo]
        refine AOPS.all (by simp (disch := first|omega|(simp only[ln];omega)) [idx_WdD (P := Try.prog) elT117 szT24, if_pos, idf_Wd', h0, h1, h5, h6, h7, h8, ho, ld_ip agT24]; rfl) ?_
        refine hK8 _ ?_
        refine AWP.region (AOPS.all (by simp (disch := first|omega|(simp only[ln];omega)) [idf_Wd', h22]; rfl) ?_)
        have hga := da'.gt (by omega) i
        have hgb := db'.gt (by omega) i
        refine ⟨a'.length - (i + 1), by omega, i + 1, out.set i ((gt a' i + gt b' i + c) % 18446744073709551616), (gt a' i + gt b' i + c) / 18446744073709551616, rfl, by omega, by simp [ho], hd.set i (by omega) (by omega), by omega, by omega, ?_, by simp [h0], by simp [h1], by simp [h5], by simp, by simp [h21], by simp (disch := omega) [h22], by simp, rfl⟩
        rw [val_set_take (by omega), val_take_succ, val_take_succ, Int.pow_succ]
        have := Int.emod_add_mul_ediv (gt a' i + gt b' i + c) 18446744073709551616
        grind
      refine AWP.seqk fun K12 hK12 => ?_
      refine AWP.region (AOPS.all (by simp (disch := first|omega|(simp only[ln];omega)) [len_Wd (P := Try.prog) #[117] rfl elT117, idf_Wd', h1]; rfl) ?_)
      refine hK12 _ ?_
      refine cond_ok _ (by simp (disch := first|omega|(simp only[ln];omega)); rfl) (fun h28 => ?_) (fun h28 => ?_)
      · try simp only [decide_eq_true_eq, decide_eq_false_iff_not] at h28
        have hib : i < b'.length := by omega
        refine AWP.region (AOPS.all (by simp (disch := first|omega|(simp only[ln];omega)) [idx_WdD (P := Try.prog) elT117 szT24, if_pos, idf_Wd', h1, ld_ip agT24]; rfl) ?_)
        refine J11 _ ?_
        exact ⟨by simp [h0], by simp [h1], by simp [h5], by simp [h6], by simp, by simp, by simp [h21], by simp [h22], rfl, rfl⟩
      · try simp only [decide_eq_true_eq, decide_eq_false_iff_not] at h28
        refine AWP.skip ?_
        refine J11 _ ?_
        exact ⟨by simp [h0], by simp [h1], by simp [h5], by simp [h6], by simp, by simp [gt_ge (show b'.length ≤ i by omega)], by simp [h21], by simp [h22], rfl, rfl⟩
    · try simp only [decide_eq_true_eq, decide_eq_false_iff_not] at h23
      obtain rfl : i = a'.length := by omega
      refine AWP.exit ?_
      refine hK4 _ ?_
      refine AWP.seqk fun K13 hK13 => ?_
      refine AWP.region (AOPS.all (by simp (disch := first|omega|(simp only[ln];omega)) [idx_WdD (P := Try.prog) elT117 szT24, if_pos, len_Wd (P := Try.prog) #[117] rfl elT117, idf_Wd', h0, h5, h6, ho]; rfl) ?_)
      refine hK13 _ ?_
      refine AWP.seqk fun K14 hK14 => ?_
      refine AWP.frz nx 1 (wd .u64 (out.set a'.length c)) (by simp) ?_
      have hfz : fz nx (wd .u64 (out.set a'.length c)) (.osl nx 0 (a'.length + 1)) = Wd .u64 (out.set a'.length c) := fz_wd (by simp [ho])
      refine AWP.region ?_
      refine AOPS.runk 1 (by simp (disch := first|omega|(simp only[ln];omega)) [List.take_succ_cons, List.take_zero, idf_Wd', h5, hfz]; rfl) ?_
      simp only [List.drop_succ_cons, List.drop_zero]
      refine AOPS.fcall (trim_fc (out.set a'.length c) (by simp; omega)) rfl rfl rfl hb176 (by simp (disch := first|omega|(simp only[ln];omega)) [idf_Wd', h5, hfz]) (by simp (disch := first|omega|(simp only[ln];omega)) [h5, hfz]) (by simp) ?_
      simp only [puts_some, updo]
      refine AOPS.all (by simp (disch := first|omega|(simp only[ln];omega)) [idf_Wd', h5, hfz]; rfl) ?_
      refine hK14 _ ?_
      refine AWP.ret ?_
      have hd2 : Dig 18446744073709551616 (out.set a'.length c) := hd.set _ (by omega) (by omega)
      have hv2 : val 18446744073709551616 (out.set a'.length c) = val 18446744073709551616 a + val 18446744073709551616 b := by
        have e1 := val_set_take (B := 18446744073709551616) (v := c) (show a'.length < out.length by omega)
        rw [val_take_all (by simp; omega)] at e1
        rw [val_take_all (Nat.le_refl _), val_take_all hle] at hval
        grind
      exact hK _ _ _ _ trivial ((Fin.mk (r := Wd .u64 (trimW (out.set a'.length c))) (by simp [aRes, aResL, aRes1])).cast (by rw [trimW_digs (by omega) hd2, hv2]))
  refine AWP.seqk fun K15 hK15 => ?_
  refine AWP.region (AOPS.all (by simp (disch := first|omega|(simp only[ln];omega)) [len_Wd (P := Try.prog) #[117] rfl elT117, idf_Wd']; rfl) ?_)
  refine hK15 _ ?_
  refine cond_ok _ (by simp (disch := first|omega|(simp only[ln];omega)); rfl) (fun h13 => ?_) (fun h13 => ?_)
  · try simp only [decide_eq_true_eq, decide_eq_false_iff_not] at h13
    refine AWP.region (AOPS.all (by simp (disch := first|omega|(simp only[ln];omega)) [idf_Wd']; rfl) ?_)
    refine J2 _ ?_
    exact ⟨b, a, by simp, by simp, by omega, hb, db, da, by omega, rfl, rfl⟩
  · try simp only [decide_eq_true_eq, decide_eq_false_iff_not] at h13
    refine AWP.skip ?_
    refine J2 _ ?_
    exact ⟨a, b, by simp, by simp, by omega, ha, da, db, rfl, rfl, rfl⟩

theorem subWords_fc (a b : List Int) (ha : a.length ≤ 549755813888) (hle : b.length ≤ a.length) (da : Dig 18446744073709551616 a) (db : Dig 18446744073709551616 b) (hba : val 18446744073709551616 b ≤ val 18446744073709551616 a) : FC Try.prog 191 [Wd .u64 a, Wd .u64 b] (Wd .u64 (digs 18446744073709551616 (val 18446744073709551616 a - val 18446744073709551616 b).toNat)) := by
  refine FC.body Try.func191 rfl (by simp [idfL, idf, idfLL_iff, idf_Wd']) (by simp [idfL, idf, idfLL_iff, idf_Wd']) 41 rfl fun nx K hK => ?_
  refine AWP.seqk fun K1 hK1 => ?_
  refine AWP.region (AOPS.all (by simp (disch := first|omega|(simp only[ln];omega)) [idf_Wd']; rfl) ?_)
  refine hK1 _ ?_
  refine AWP.seqk fun K2 hK2 => ?_
  refine AWP.region (AOPS.all (by simp (disch := first|omega|(simp only[ln];omega)) [if_pos, len_Wd (P := Try.prog) #[117] rfl elT117, idf_Wd']; rfl) ?_)
  refine hK2 _ ?_
  refine AWP.seqk fun K3 hK3 => ?_
  refine AWP.seqk fun K4 hK4 => ?_
  refine AWP.region (AOPS.all (by simp (disch := first|omega|(simp only[ln];omega)) [len_Wd (P := Try.prog) #[117] rfl elT117, idf_Wd']; rfl) ?_)
  refine hK4 _ ?_
  refine AWP.block ?_
  refine AWP.loop (fun n s => ∃ i out c, n = a.length - i ∧ i ≤ a.length ∧ out.length = a.length ∧ Dig 18446744073709551616 out ∧ 0 ≤ c ∧ c ≤ 1 ∧ val 18446744073709551616 (out.take i) - c * (18446744073709551616 : Int) ^ i = val 18446744073709551616 (a.take i) - val 18446744073709551616 (b.take i) ∧ s.env 0 = Wd .u64 a ∧ s.env 1 = Wd .u64 b ∧ s.env 5 = .osl nx 0 a.length ∧ s.env 6 = .int .u64 c ∧ s.env 13 = .int .i64 a.length ∧ s.env 14 = .int .i64 (i : Int) ∧ s.heap = hupd (fun _ => none) nx (some (1, wd .u64 out)) ∧ s.nt = 41) (a.length) (⟨0, List.replicate a.length 0, 0, by omega, by omega, by simp, Dig.replicate _ (by omega) (by omega), by omega, by omega, by simp [val], by simp, by simp, by simp, by simp, by simp, by simp, by simp, rfl⟩) ?_
  rintro n ⟨e, H, nx2, nt⟩ ⟨i, out, c, rfl, hi, ho, hd, hc0, hc1, hval, h0, h1, h5, h6, h13, h14, rfl, rfl⟩
  simp only [] at h0 h1 h5 h6 h13 h14
  refine AWP.seqk fun K5 hK5 => ?_
  refine AWP.region (AOPS.all (by simp (disch := first|omega|(simp only[ln];omega)) [idf_Wd', h13, h14]; rfl) ?_)
  refine hK5 _ ?_
  refine AWP.seqk fun K6 hK6 => ?_
  refine cond_ok _ (by simp (disch := first|omega|(simp only[ln];omega)); rfl) (fun h15 => ?_) (fun h15 => ?_)
  · try simp only [decide_eq_true_eq, decide_eq_false_iff_not] at h15
    have hi' : i < a.length := by omega
    refine AWP.skip ?_
    refine hK6 _ ?_
    refine AWP.seqk fun K7 hK7 => ?_
    refine AWP.block ?_
    refine AWP.seqk fun K8 hK8 => ?_
    refine AWP.region (AOPS.all (by simp (disch := first|omega|(simp only[ln];omega)) [idf_Wd', h14]; rfl) ?_)
    refine hK8 _ ?_
    refine AWP.seqk fun K9 hK9 => ?_
    refine AWP.region (AOPS.all (by simp (disch := first|omega|(simp only[ln];omega)) [idf_Wd']; rfl) ?_)
    refine hK9 _ ?_
    refine AWP.seqk fun K10 hK10 => ?_
    have J10 : ∀ s : St, (s.env 0 = Wd .u64 a ∧ s.env 1 = Wd .u64 b ∧ s.env 5 = .osl nx 0 a.length ∧ s.env 6 = .int .u64 c ∧ s.env 7 = .int .i64 (i : Int) ∧ s.env 8 = .int .u64 (gt b i) ∧ s.env 13 = .int .i64 a.length ∧ s.env 14 = .int .i64 (i : Int) ∧ s.heap = hupd (fun _ => none) nx (some (1, wd .u64 out)) ∧ s.nt = 41) → K10 s := by
      clear h0 h1 h5 h6 h13 h14
      rintro ⟨e, H, nx2, nt⟩ ⟨h0, h1, h5, h6, h7, h8, h13, h14, rfl, rfl⟩
      simp only [] at h0 h1 h5 h6 h7 h8 h13 h14
      refine hK10 _ ?_
      refine AWP.region ?_
      refine AOPS.runk 8 (by simp (disch := first|omega|(simp only[ln];omega)) [List.take_succ_cons, List.take_zero, idx_WdD (P := Try.prog) elT117 szT24, if_pos, idf_Wd', h0, h1, h5, h6, h7, h8, ho, ld_ip agT24]; rfl) ?_
      simp only [List.drop_succ_cons, List.drop_zero]
      refine AOPS.ecall (FE.sub64 nb216 (gt a i) (gt b i) c (da.gt (by omega) i).1 (db.gt (by omega) i).1 (db.gt (by omega) i).2 hc0 hc1) rfl rfl rfl (by simp (disch := first|omega|(simp only[ln];omega)) [idf_Wd', h0, h1, h5, h6, h7, h8, ho, ld_ip agT24]) (by simp (disch := first|omega|(simp only[ln];omega)) [h0, h1, h5, h6, h7, h8, ho, ld_ip agT24]) (by simp) ?_
      simp only [puts_some, updo]
      refine AOPS.all (by simp (disch := first|omega|(simp only[ln];omega)) [idx_WdD (P := Try.prog) elT117 szT24, if_pos, idf_Wd', h0, h1, h5, h6, h7, h8, ho, ld_ip agT24]; rfl) ?_
      refine hK7 _ ?_
      refine AWP.region (AOPS.all (by simp (disch := first|omega|(simp only[ln];omega)) [idf_Wd', h14]; rfl) ?_)
      have hga := da.gt (by omega) i
      have hgb := db.gt (by omega) i
      have hc' : 0 ≤ (if gt a i < gt b i + c then (1 : Int) else 0) ∧ (if gt a i < gt b i + c then (1 : Int) else 0) ≤ 1 := by split <;> omega
      refine ⟨a.length - (i + 1), by omega, i + 1, out.set i ((gt a i - gt b i - c) % 18446744073709551616), (if gt a i < gt b i + c then 1 else 0), rfl, by omega, by simp [ho], hd.set i (by omega) (by omega), hc'.1, hc'.2, ?_, by simp [h0], by simp [h1], by simp [h5], by simp, by simp [h13], by simp (disch := omega) [h14], by simp, rfl⟩
      rw [val_set_take (by omega), val_take_succ, val_take_succ, Int.pow_succ]
      have e : (gt a i - gt b i - c) % 18446744073709551616 = gt a i - gt b i - c + 18446744073709551616 * (if gt a i < gt b i + c then (1 : Int) else 0) := by split <;> omega
      rw [e]
      grind
    refine AWP.seqk fun K11 hK11 => ?_
    refine AWP.region (AOPS.all (by simp (disch := first|omega|(simp only[ln];omega)) [len_Wd (P := Try.prog) #[117] rfl elT117, idf_Wd', h1]; rfl) ?_)
    refine hK11 _ ?_
    refine cond_ok _ (by simp (disch := first|omega|(simp only[ln];omega)); rfl) (fun h20 => ?_) (fun h20 => ?_)
    · try simp only [decide_eq_true_eq, decide_eq_false_iff_not] at h20
      have hib : i < b.length := by omega
      refine AWP.region (AOPS.all (by simp (disch := first|omega|(simp only[ln];omega)) [idx_WdD (P := Try.prog) elT117 szT24, if_pos, idf_Wd', h1, ld_ip agT24]; rfl) ?_)
      refine J10 _ ?_
      exact ⟨by simp [h0], by simp [h1], by simp [h5], by simp [h6], by simp, by simp, by simp [h13], by simp [h14], rfl, rfl⟩
    · try simp only [decide_eq_true_eq, decide_eq_false_iff_not] at h20
      refine AWP.skip ?_
      refine J10 _ ?_
      exact ⟨by simp [h0], by simp [h1], by simp [h5], by simp [h6], by simp, by simp [gt_ge (show b.length ≤ i by omega)], by simp [h13], by simp [h14], rfl, rfl⟩
  · try simp only [decide_eq_true_eq, decide_eq_false_iff_not] at h15
    obtain rfl : i = a.length := by omega
    refine AWP.exit ?_
    refine hK3 _ ?_
    refine AWP.seqk fun K12 hK12 => ?_
    refine AWP.frz nx 1 (wd .u64 out) (by simp) ?_
    have hfz : fz nx (wd .u64 out) (.osl nx 0 a.length) = Wd .u64 out := fz_wd (by simp [ho])
    refine AWP.region ?_
    refine AOPS.runk 1 (by simp (disch := first|omega|(simp only[ln];omega)) [List.take_succ_cons, List.take_zero, idf_Wd', h5, hfz]; rfl) ?_
    simp only [List.drop_succ_cons, List.drop_zero]
    refine AOPS.fcall (trim_fc out (by omega)) rfl rfl rfl hb176 (by simp (disch := first|omega|(simp only[ln];omega)) [idf_Wd', h5, hfz]) (by simp (disch := first|omega|(simp only[ln];omega)) [h5, hfz]) (by simp) ?_
    simp only [puts_some, updo]
    refine AOPS.all (by simp (disch := first|omega|(simp only[ln];omega)) [idf_Wd', h5, hfz]; rfl) ?_
    refine hK12 _ ?_
    refine AWP.ret ?_
    have hv2 : val 18446744073709551616 out = val 18446744073709551616 a - val 18446744073709551616 b := by
      rw [val_take_all (by omega), val_take_all (Nat.le_refl _), val_take_all hle] at hval
      have h1 := val_lt64 hd
      rw [ho] at h1
      have : c = 0 ∨ c = 1 := by omega
      rcases this with rfl | rfl
      · omega
      · exfalso; omega
    exact hK _ _ _ _ trivial ((Fin.mk (r := Wd .u64 (trimW out)) (by simp [aRes, aResL, aRes1])).cast (by rw [trimW_digs (by omega) hd, hv2]))

theorem val_mag_add (a b : Int) : digs 18446744073709551616 (val 18446744073709551616 (mag a) + val 18446744073709551616 (mag b)).toNat = mag ((a.natAbs : Int) + b.natAbs) := by
  rw [mag_val, mag_val]; unfold mag; congr 1
theorem addWords_mag {a b : Int} (ha : (mag a).length ≤ 549755813888) (hb : (mag b).length ≤ 549755813888) : FC Try.prog 175 [Wd .u64 (mag a), Wd .u64 (mag b)] (Wd .u64 (mag ((a.natAbs : Int) + b.natAbs))) := by
  rw [← val_mag_add]; exact addWords_fc _ _ ha hb (mag_dig a) (mag_dig b)
theorem subWords_mag {a b : Int} (ha : (mag a).length ≤ 549755813888) (h : b.natAbs ≤ a.natAbs) : FC Try.prog 191 [Wd .u64 (mag a), Wd .u64 (mag b)] (Wd .u64 (mag ((a.natAbs : Int) - b.natAbs))) := by
  have e : digs 18446744073709551616 (val 18446744073709551616 (mag a) - val 18446744073709551616 (mag b)).toNat = mag ((a.natAbs : Int) - b.natAbs) := by
    rw [mag_val, mag_val]; unfold mag; congr 1; omega
  rw [← e]
  refine subWords_fc _ _ ha ?_ (mag_dig a) (mag_dig b) (by rw [mag_val, mag_val]; omega)
  rcases Nat.lt_or_ge (mag a).length (mag b).length with h1 | h1
  · have := can_len_lt (B := 18446744073709551616) (by omega) (mag_dig a) (mag_dig b) (mag_can b) h1
    rw [mag_val, mag_val] at this; omega
  · exact h1

end Go.Proofs.Ytmaebeknmiomnaa

/- Walks: numbers with a sign. -/
namespace Go.Proofs.Ytmaebeknmiomnaa
open Go Go.RowKit
set_option linter.unusedSimpArgs false
set_option linter.unusedVariables false
set_option maxRecDepth 100000
attribute [local simp] List.getElem?_cons_zero List.getElem?_cons_succ List.getElem?_toArray runOps stepOp.eq_def agd.eq_def dstOk.eq_def opVal.eq_def opNew.eq_def opSto.eq_def ev.eq_def cv.eq_def puts_some puts_none upd_ap lst.eq_def aBin.eq_def aUn.eq_def aBi_str aBi_isl aBi_osl aBi_nsl aBi_max aBi_min aBi_max3 aConv.eq_def aLd.eq_def aLoad.eq_def aField.eq_def aFld.eq_def aIdx_isl aIdx_osl aSlc_isl aSlc_osl aSlc_str aSlc_nsl bnd.eq_def evs_nil evs_cons aBuild.eq_def aFill splice.eq_def cells_agg cells_int cells_bool cells_str cells_nil cells_nsl cells_isl cells_osl cells_ptr cells_ip cells_fn cells_Wd one_int one_bool one_str one_nil one_nsl one_isl one_osl one_ptr one_ip one_fn one_Wd aSets hupd_eq hupd_ne wrap_i64s wrap_u64s wrap_u32s wrap_u8s wd_getD wd_set wd_len wd_replicate wd_one wd_fold fz_osl hupd_same aSix.eq_def aEqS.eq_def aEqB_bool aEqB_nsl aEqB_nil
attribute [local simp] szT2 byT2 agT2 unT2 zoT2 szT3 byT3 agT3 unT3 zoT3 szT4 byT4 agT4 unT4 zoT4 szT24 byT24 agT24 unT24 zoT24 szT117 byT117 agT117 elT117 unT117 zoT117 szT119 byT119 agT119 flT119 fdT119_0 fdT119_1 zoT119

theorem made_fc (b : Bool) (l : List Int) (hl : l.length ≤ 1099511627776) (hd : Dig 18446744073709551616 l) : FC Try.prog 174 [.bool b, Wd .u64 l] (numI (sg b (val 18446744073709551616 l))) := by
  refine FC.body Try.func174 rfl (by simp [idfL, idf, idfLL_iff, idf_Wd', idf_numI, cells_numI, numI_fold]) (by simp [idfL, idf, idfLL_iff, idf_Wd', idf_numI, cells_numI, numI_fold]) 15 rfl fun nx K hK => ?_
  refine AWP.seqk fun K1 hK1 => ?_
  refine AWP.region (AOPS.all (by simp (disch := first|omega|(simp only[ln];omega)) [idf_Wd', idf_numI, cells_numI, numI_fold]; rfl) ?_)
  refine hK1 _ ?_
  refine AWP.seqk fun K2 hK2 => ?_
  refine AWP.region ?_
  refine AOPS.runk 1 (by simp (disch := first|omega|(simp only[ln];omega)) [List.take_succ_cons, List.take_zero, idf_Wd', idf_numI, cells_numI, numI_fold]; rfl) ?_
  simp only [List.drop_succ_cons, List.drop_zero]
  refine AOPS.fcall (trim_fc l hl) rfl rfl rfl hb176 (by simp (disch := first|omega|(simp only[ln];omega)) [idf_Wd', idf_numI, cells_numI, numI_fold]) (by simp (disch := first|omega|(simp only[ln];omega))) (by simp) ?_
  simp only [puts_some, updo]
  refine AOPS.all (by simp (disch := first|omega|(simp only[ln];omega)) [idf_Wd', idf_numI, cells_numI, numI_fold]; rfl) ?_
  refine hK2 _ ?_
  refine AWP.seqk fun K3 hK3 => ?_
  cases b
  · refine AWP.region (AOPS.all (by simp (disch := first|omega|(simp only[ln];omega)) [len_Wd (P := Try.prog) #[117] rfl elT117, idf_Wd', idf_numI, cells_numI, numI_fold]; rfl) ?_)
    refine hK3 _ ?_
    refine AWP.ret ?_
    exact hK _ _ _ _ trivial ((Fin.mk (by simp [aRes, aResL, aRes1, idf_Wd', idf_numI, cells_numI, numI_fold]; rfl)).cast (by rw [← numI_mk hd]; simp))
  · refine AWP.region (AOPS.all (by simp (disch := first|omega|(simp only[ln];omega)) [len_Wd (P := Try.prog) #[117] rfl elT117, idf_Wd', idf_numI, cells_numI, numI_fold]; rfl) ?_)
    refine hK3 _ ?_
    refine AWP.ret ?_
    exact hK _ _ _ _ trivial ((Fin.mk (by simp [aRes, aResL, aRes1, idf_Wd', idf_numI, cells_numI, numI_fold]; rfl)).cast (by rw [← numI_mk hd]; simp))

theorem sign_fc (z : Int) : FC Try.prog 85 [numI z] (.int .i64 (if z < 0 then -1 else if z > 0 then 1 else 0)) := by
  refine FC.body Try.func85 rfl (by simp [idfL, idf, idfLL_iff, idf_Wd', idf_numI, cells_numI, numI_fold]) (by simp [idfL, idf, idfLL_iff, idf_Wd', idf_numI, cells_numI, numI_fold]) 11 rfl fun nx K hK => ?_
  refine AWP.seqk fun K1 hK1 => ?_
  refine AWP.region (AOPS.all (by simp (disch := first|omega|(simp only[ln];omega)) [idf_Wd', idf_numI, cells_numI, numI_fold]; rfl) ?_)
  refine hK1 _ ?_
  refine AWP.seqk fun K2 hK2 => ?_
  refine AWP.block ?_
  refine AWP.seqk fun K3 hK3 => ?_
  refine AWP.region (AOPS.all (by simp (disch := first|omega|(simp only[ln];omega)) [idf_Wd', idf_numI, cells_numI, numI_fold]; rfl) ?_)
  refine hK3 _ ?_
  refine cond_ok _ (by simp (disch := first|omega|(simp only[ln];omega)); rfl) (fun h3 => ?_) (fun h3 => ?_)
  · try simp only [decide_eq_true_eq, decide_eq_false_iff_not] at h3
    have hz : z < 0 := by simpa using h3
    refine AWP.seqk fun K4 hK4 => ?_
    refine AWP.region (AOPS.all (by simp (disch := first|omega|(simp only[ln];omega)) [idf_Wd', idf_numI, cells_numI, numI_fold]; rfl) ?_)
    refine hK4 _ ?_
    refine AWP.ret ?_
    exact hK _ _ _ _ trivial (Fin.mk (by simp [aRes, aResL, aRes1, hz]))
  · try simp only [decide_eq_true_eq, decide_eq_false_iff_not] at h3
    have hz : ¬ z < 0 := by simpa using h3
    refine AWP.seqk fun K5 hK5 => ?_
    refine AWP.region (AOPS.all (by simp (disch := first|omega|(simp only[ln];omega)) [len_Wd (P := Try.prog) #[117] rfl elT117, idf_Wd', idf_numI, cells_numI, numI_fold]; rfl) ?_)
    refine hK5 _ ?_
    refine cond_ok _ (by simp (disch := first|omega|(simp only[ln];omega)); rfl) (fun h6 => ?_) (fun h6 => ?_)
    · try simp only [decide_eq_true_eq, decide_eq_false_iff_not] at h6
      have hz2 : z > 0 := by
        have h := (mag_len0 (z := z)); omega
      refine AWP.seqk fun K6 hK6 => ?_
      refine AWP.region (AOPS.all (by simp (disch := first|omega|(simp only[ln];omega)) [idf_Wd', idf_numI, cells_numI, numI_fold]; rfl) ?_)
      refine hK6 _ ?_
      refine AWP.ret ?_
      exact hK _ _ _ _ trivial (Fin.mk (by simp [aRes, aResL, aRes1, hz, hz2]))
    · try simp only [decide_eq_true_eq, decide_eq_false_iff_not] at h6
      have hz2 : ¬ z > 0 := by
        have h := (mag_len0 (z := z)); omega
      refine AWP.skip ?_
      refine hK2 _ ?_
      refine AWP.seqk fun K7 hK7 => ?_
      refine AWP.region (AOPS.all (by simp (disch := first|omega|(simp only[ln];omega)) [idf_Wd', idf_numI, cells_numI, numI_fold]; rfl) ?_)
      refine hK7 _ ?_
      refine AWP.ret ?_
      exact hK _ _ _ _ trivial (Fin.mk (by simp [aRes, aResL, aRes1, hz, hz2]))

theorem minus_fc {k : Nat} {z : Int} (hz : Bg k z) (hk : k ≤ 1099511627776) : FC Try.prog 179 [numI z] (numI (-z)) := by
  refine FC.body Try.func179 rfl (by simp [idfL, idf, idfLL_iff, idf_Wd', idf_numI, cells_numI, numI_fold]) (by simp [idfL, idf, idfLL_iff, idf_Wd', idf_numI, cells_numI, numI_fold]) 9 rfl fun nx K hK => ?_
  refine AWP.seqk fun K1 hK1 => ?_
  refine AWP.region (AOPS.all (by simp (disch := first|omega|(simp only[ln];omega)) [idf_Wd', idf_numI, cells_numI, numI_fold]; rfl) ?_)
  refine hK1 _ ?_
  refine AWP.seqk fun K2 hK2 => ?_
  refine AWP.region ?_
  refine AOPS.runk 5 (by simp (disch := first|omega|(simp only[ln];omega)) [List.take_succ_cons, List.take_zero, idf_Wd', idf_numI, cells_numI, numI_fold]; rfl) ?_
  simp only [List.drop_succ_cons, List.drop_zero]
  refine AOPS.fcall (made_fc (!decide (z < 0)) (mag z) (Nat.le_trans hz.len hk) (mag_dig z)) rfl rfl rfl hb174 (by simp (disch := first|omega|(simp only[ln];omega)) [idf_Wd', idf_numI, cells_numI, numI_fold]) (by simp (disch := first|omega|(simp only[ln];omega))) (by simp) ?_
  simp only [puts_some, updo]
  refine AOPS.all (by simp (disch := first|omega|(simp only[ln];omega)) [idf_Wd', idf_numI, cells_numI, numI_fold]; rfl) ?_
  refine hK2 _ ?_
  refine AWP.ret ?_
  exact hK _ _ _ _ trivial ((Fin.mk (r := numI (sg (!decide (z < 0)) (val 18446744073709551616 (mag z)))) (by simp [aRes, aResL, aRes1, idf_Wd', idf_numI, cells_numI, numI_fold])).cast (by congr 1; rw [mag_val]; unfold sg; split <;> simp at * <;> omega))

theorem plus_fc {j k : Nat} {a b : Int} (ha : Bg j a) (hb : Bg k b) (hj : j ≤ 274877906944) (hk : k ≤ 274877906944) : FC Try.prog 101 [numI a, numI b] (numI (a + b)) := by
  have la : (mag a).length ≤ 274877906944 := Nat.le_trans ha.len hj
  have lb : (mag b).length ≤ 274877906944 := Nat.le_trans hb.len hk
  refine FC.body Try.func101 rfl (by simp [idfL, idf, idfLL_iff, idf_Wd', idf_numI, cells_numI, numI_fold]) (by simp [idfL, idf, idfLL_iff, idf_Wd', idf_numI, cells_numI, numI_fold]) 40 rfl fun nx K hK => ?_
  refine AWP.seqk fun K1 hK1 => ?_
  refine AWP.region (AOPS.all (by simp (disch := first|omega|(simp only[ln];omega)) [idf_Wd', idf_numI, cells_numI, numI_fold]; rfl) ?_)
  refine hK1 _ ?_
  refine AWP.seqk fun K2 hK2 => ?_
  refine AWP.seqk fun K3 hK3 => ?_
  refine AWP.region (AOPS.all (by simp (disch := first|omega|(simp only[ln];omega)) [idf_Wd', idf_numI, cells_numI, numI_fold]; rfl) ?_)
  refine hK3 _ ?_
  refine cond_ok _ (by simp (disch := first|omega|(simp only[ln];omega)); rfl) (fun h9 => ?_) (fun h9 => ?_)
  · try simp only [decide_eq_true_eq, decide_eq_false_iff_not] at h9
    have hs : (a < 0 ↔ b < 0) := by simpa using h9
    refine AWP.seqk fun K4 hK4 => ?_
    refine AWP.draw 8 Try.checked.mixed (by kernel_rfl) (by simp) ?_
    simp only [List.take_succ_cons, List.take_zero, List.drop_succ_cons, List.drop_zero]
    refine DP.runFk 6 (by simp (disch := first|omega|(simp only[ln];omega)) [runDf.eq_def, runF1, runF2, stepF.eq_def, updo.eq_def, hupo.eq_def, opSto1.eq_def, List.take_succ_cons, List.take_zero, idf_Wd', idf_numI, cells_numI, numI_fold]; rfl) fun fs5 hfs5 => ?_
    replace hfs5 : fs5.length = 6 := hfs5.trans rfl
    simp only [List.drop_succ_cons, List.drop_zero]
    refine DP.fcall (addWords_mag (a := a) (b := b) (by omega) (by omega)) rfl rfl rfl hb175 (by simp (disch := first|omega|(simp only[ln];omega)) [idf_Wd', idf_numI, cells_numI, numI_fold]) (by simp (disch := first|omega|(simp only[ln];omega))) (by simp) ?_
    simp only [updo]
    refine DP.fcall (made_fc (decide (a < 0)) (mag ((a.natAbs : Int) + b.natAbs)) (Nat.le_trans (ha.abs.add hb.abs).len (by omega)) (mag_dig _)) rfl rfl rfl hb174 (by simp (disch := first|omega|(simp only[ln];omega)) [idf_Wd', idf_numI, cells_numI, numI_fold]) (by simp (disch := first|omega|(simp only[ln];omega))) (by simp) ?_
    simp only [updo]
    refine DQ.runF (m := 8) (by simp only [List.length_append, List.length_cons, List.length_nil, hfs5]; omega) _ _ _ (by kernel_rfl) rfl (by simp (disch := first|omega|(simp only[ln];omega)) [runDf.eq_def, runF1, runF2, stepF.eq_def, updo.eq_def, hupo.eq_def, opSto1.eq_def, idf_Wd', idf_numI, cells_numI, numI_fold]; rfl) ?_
    refine hK4 _ ?_
    refine AWP.ret ?_
    exact hK _ _ _ _ trivial ((Fin.mk (r := numI (sg (decide (a < 0)) (val 18446744073709551616 (mag ((a.natAbs : Int) + b.natAbs))))) (by simp [aRes, aResL, aRes1, idf_Wd', idf_numI, cells_numI, numI_fold])).cast (by congr 1; rw [mag_val]; unfold sg; split <;> simp at * <;> omega))
  · try simp only [decide_eq_true_eq, decide_eq_false_iff_not] at h9
    have hs : ¬ (a < 0 ↔ b < 0) := by simpa using h9
    refine AWP.skip ?_
    refine hK2 _ ?_
    refine AWP.seqk fun K6 hK6 => ?_
    refine AWP.seqk fun K7 hK7 => ?_
    refine AWP.region ?_
    refine AOPS.runk 4 (by simp (disch := first|omega|(simp only[ln];omega)) [List.take_succ_cons, List.take_zero, idf_Wd', idf_numI, cells_numI, numI_fold]; rfl) ?_
    simp only [List.drop_succ_cons, List.drop_zero]
    refine AOPS.fcall (cmpWords_fc (mag a) (mag b) (by omega) (by omega)) rfl rfl rfl hb190 (by simp (disch := first|omega|(simp only[ln];omega)) [idf_Wd', idf_numI, cells_numI, numI_fold]) (by simp (disch := first|omega|(simp only[ln];omega))) (by simp) ?_
    simp only [puts_some, updo]
    refine AOPS.all (by simp (disch := first|omega|(simp only[ln];omega)) [idf_Wd', idf_numI, cells_numI, numI_fold]; rfl) ?_
    refine hK7 _ ?_
    refine cond_ok _ (by simp (disch := first|omega|(simp only[ln];omega)); rfl) (fun h23 => ?_) (fun h23 => ?_)
    · try simp only [decide_eq_true_eq, decide_eq_false_iff_not] at h23
      have hc : b.natAbs ≤ a.natAbs := by
        have := cmpI_mag a b; omega
      refine AWP.seqk fun K8 hK8 => ?_
      refine AWP.draw 8 Try.checked.mixed (by kernel_rfl) (by simp) ?_
      simp only [List.take_succ_cons, List.take_zero, List.drop_succ_cons, List.drop_zero]
      refine DP.runFk 6 (by simp (disch := first|omega|(simp only[ln];omega)) [runDf.eq_def, runF1, runF2, stepF.eq_def, updo.eq_def, hupo.eq_def, opSto1.eq_def, List.take_succ_cons, List.take_zero, idf_Wd', idf_numI, cells_numI, numI_fold]; rfl) fun fs9 hfs9 => ?_
      replace hfs9 : fs9.length = 6 := hfs9.trans rfl
      simp only [List.drop_succ_cons, List.drop_zero]
      refine DP.fcall (subWords_mag (a := a) (b := b) (by omega) hc) rfl rfl rfl hb191 (by simp (disch := first|omega|(simp only[ln];omega)) [idf_Wd', idf_numI, cells_numI, numI_fold]) (by simp (disch := first|omega|(simp only[ln];omega))) (by simp) ?_
      simp only [updo]
      refine DP.fcall (made_fc (decide (a < 0)) (mag ((a.natAbs : Int) - b.natAbs)) (Nat.le_trans (ha.abs.sub hb.abs).len (by omega)) (mag_dig _)) rfl rfl rfl hb174 (by simp (disch := first|omega|(simp only[ln];omega)) [idf_Wd', idf_numI, cells_numI, numI_fold]) (by simp (disch := first|omega|(simp only[ln];omega))) (by simp) ?_
      simp only [updo]
      refine DQ.runF (m := 8) (by simp only [List.length_append, List.length_cons, List.length_nil, hfs9]; omega) _ _ _ (by kernel_rfl) rfl (by simp (disch := first|omega|(simp only[ln];omega)) [runDf.eq_def, runF1, runF2, stepF.eq_def, updo.eq_def, hupo.eq_def, opSto1.eq_def, idf_Wd', idf_numI, cells_numI, numI_fold]; rfl) ?_
      refine hK8 _ ?_
      refine AWP.ret ?_
      exact hK _ _ _ _ trivial ((Fin.mk (r := numI (sg (decide (a < 0)) (val 18446744073709551616 (mag ((a.natAbs : Int) - b.natAbs))))) (by simp [aRes, aResL, aRes1, idf_Wd', idf_numI, cells_numI, numI_fold])).cast (by congr 1; rw [mag_val]; unfold sg; split <;> simp at * <;> omega))
    · try simp only [decide_eq_true_eq, decide_eq_false_iff_not] at h23
      have hc : a.natAbs ≤ b.natAbs := by
        have := cmpI_mag a b; omega
      refine AWP.skip ?_
      refine hK6 _ ?_
      refine AWP.seqk fun K10 hK10 => ?_
      refine AWP.draw 8 Try.checked.mixed (by kernel_rfl) (by simp) ?_
      simp only [List.take_succ_cons, List.take_zero, List.drop_succ_cons, List.drop_zero]
      refine DP.runFk 6 (by simp (disch := first|omega|(simp only[ln];omega)) [runDf.eq_def, runF1, runF2, stepF.eq_def, updo.eq_def, hupo.eq_def, opSto1.eq_def, List.take_succ_cons, List.take_zero, idf_Wd', idf_numI, cells_numI, numI_fold]; rfl) fun fs11 hfs11 => ?_
      replace hfs11 : fs11.length = 6 := hfs11.trans rfl
      simp only [List.drop_succ_cons, List.drop_zero]
      refine DP.fcall (subWords_mag (a := b) (b := a) (by omega) hc) rfl rfl rfl hb191 (by simp (disch := first|omega|(simp only[ln];omega)) [idf_Wd', idf_numI, cells_numI, numI_fold]) (by simp (disch := first|omega|(simp only[ln];omega))) (by simp) ?_
      simp only [updo]
      refine DP.fcall (made_fc (decide (b < 0)) (mag ((b.natAbs : Int) - a.natAbs)) (Nat.le_trans (hb.abs.sub ha.abs).len (by omega)) (mag_dig _)) rfl rfl rfl hb174 (by simp (disch := first|omega|(simp only[ln];omega)) [idf_Wd', idf_numI, cells_numI, numI_fold]) (by simp (disch := first|omega|(simp only[ln];omega))) (by simp) ?_
      simp only [updo]
      refine DQ.runF (m := 8) (by simp only [List.length_append, List.length_cons, List.length_nil, hfs11]; omega) _ _ _ (by kernel_rfl) rfl (by simp (disch := first|omega|(simp only[ln];omega)) [runDf.eq_def, runF1, runF2, stepF.eq_def, updo.eq_def, hupo.eq_def, opSto1.eq_def, idf_Wd', idf_numI, cells_numI, numI_fold]; rfl) ?_
      refine hK10 _ ?_
      refine AWP.ret ?_
      exact hK _ _ _ _ trivial ((Fin.mk (r := numI (sg (decide (b < 0)) (val 18446744073709551616 (mag ((b.natAbs : Int) - a.natAbs))))) (by simp [aRes, aResL, aRes1, idf_Wd', idf_numI, cells_numI, numI_fold])).cast (by congr 1; rw [mag_val]; unfold sg; split <;> simp at * <;> omega))

theorem less_fc {j k : Nat} {a b : Int} (ha : Bg j a) (hb : Bg k b) (hj : j ≤ 274877906944) (hk : k ≤ 274877906944) : FC Try.prog 109 [numI a, numI b] (numI (a - b)) := by
  refine FC.body Try.func109 rfl (by simp [idfL, idf, idfLL_iff, idf_Wd', idf_numI, cells_numI, numI_fold]) (by simp [idfL, idf, idfLL_iff, idf_Wd', idf_numI, cells_numI, numI_fold]) 9 rfl fun nx K hK => ?_
  refine AWP.seqk fun K1 hK1 => ?_
  refine AWP.region (AOPS.all (by simp (disch := first|omega|(simp only[ln];omega)) [idf_Wd', idf_numI, cells_numI, numI_fold]; rfl) ?_)
  refine hK1 _ ?_
  refine AWP.seqk fun K2 hK2 => ?_
  refine AWP.draw 4 Try.checked.mixed (by kernel_rfl) (by simp) ?_
  simp only [List.take_succ_cons, List.take_zero, List.drop_succ_cons, List.drop_zero]
  refine DP.runFk 2 (by simp (disch := first|omega|(simp only[ln];omega)) [runDf.eq_def, runF1, runF2, stepF.eq_def, updo.eq_def, hupo.eq_def, opSto1.eq_def, List.take_succ_cons, List.take_zero, idf_Wd', idf_numI, cells_numI, numI_fold]; rfl) fun fs3 hfs3 => ?_
  replace hfs3 : fs3.length = 2 := hfs3.trans rfl
  simp only [List.drop_succ_cons, List.drop_zero]
  refine DP.fcall (minus_fc hb (by omega)) rfl rfl rfl hb179 (by simp (disch := first|omega|(simp only[ln];omega)) [idf_Wd', idf_numI, cells_numI, numI_fold]) (by simp (disch := first|omega|(simp only[ln];omega))) (by simp) ?_
  simp only [updo]
  refine DP.fcall (plus_fc ha hb.neg hj hk) rfl rfl rfl hb101 (by simp (disch := first|omega|(simp only[ln];omega)) [idf_Wd', idf_numI, cells_numI, numI_fold]) (by simp (disch := first|omega|(simp only[ln];omega))) (by simp) ?_
  simp only [updo]
  refine DQ.runF (m := 4) (by simp only [List.length_append, List.length_cons, List.length_nil, hfs3]; omega) _ _ _ (by kernel_rfl) rfl (by simp (disch := first|omega|(simp only[ln];omega)) [runDf.eq_def, runF1, runF2, stepF.eq_def, updo.eq_def, hupo.eq_def, opSto1.eq_def, idf_Wd', idf_numI, cells_numI, numI_fold]; rfl) ?_
  refine hK2 _ ?_
  refine AWP.ret ?_
  exact hK _ _ _ _ trivial ((Fin.mk (r := numI (a + -b)) (by simp [aRes, aResL, aRes1, idf_Wd', idf_numI, cells_numI, numI_fold])).cast rfl)

theorem cmp_fc {j k : Nat} {a b : Int} (ha : Bg j a) (hb : Bg k b) (hj : j ≤ 274877906943) (hk : k ≤ 274877906943) : FC Try.prog 88 [numI a, numI b] (.int .i64 (if a < b then -1 else if a > b then 1 else 0)) := by
  refine FC.body Try.func88 rfl (by simp [idfL, idf, idfLL_iff, idf_Wd', idf_numI, cells_numI, numI_fold]) (by simp [idfL, idf, idfLL_iff, idf_Wd', idf_numI, cells_numI, numI_fold]) 9 rfl fun nx K hK => ?_
  refine AWP.seqk fun K1 hK1 => ?_
  refine AWP.region (AOPS.all (by simp (disch := first|omega|(simp only[ln];omega)) [idf_Wd', idf_numI, cells_numI, numI_fold]; rfl) ?_)
  refine hK1 _ ?_
  refine AWP.seqk fun K2 hK2 => ?_
  refine AWP.region ?_
  refine AOPS.runk 2 (by simp (disch := first|omega|(simp only[ln];omega)) [List.take_succ_cons, List.take_zero, idf_Wd', idf_numI, cells_numI, numI_fold]; rfl) ?_
  simp only [List.drop_succ_cons, List.drop_zero]
  refine AOPS.fcall (less_fc ha hb (by omega) (by omega)) rfl rfl rfl hb109 (by simp (disch := first|omega|(simp only[ln];omega)) [idf_Wd', idf_numI, cells_numI, numI_fold]) (by simp (disch := first|omega|(simp only[ln];omega))) (by simp) ?_
  simp only [puts_some, updo]
  refine AOPS.fcall (sign_fc (a - b)) rfl rfl rfl hb85 (by simp (disch := first|omega|(simp only[ln];omega)) [idf_Wd', idf_numI, cells_numI, numI_fold]) (by simp (disch := first|omega|(simp only[ln];omega))) (by simp) ?_
  simp only [puts_some, updo]
  refine AOPS.all (by simp (disch := first|omega|(simp only[ln];omega)) [idf_Wd', idf_numI, cells_numI, numI_fold]; rfl) ?_
  refine hK2 _ ?_
  refine AWP.ret ?_
  exact hK _ _ _ _ trivial ((Fin.mk (by simp [aRes, aResL, aRes1, idf_Wd', idf_numI, cells_numI, numI_fold]; rfl)).cast (by congr 1; split <;> split <;> simp at * <;> first | rfl | omega | (split <;> first | rfl | omega)))

theorem whole_fc (n : Int) (h1 : -9223372036854775808 ≤ n) (h2 : n ≤ 9223372036854775807) : FC Try.prog 89 [.int .i64 n] (numI n) := by
  refine FC.body Try.func89 rfl (by simp [idfL, idf, idfLL_iff, idf_Wd', idf_numI, cells_numI, numI_fold]) (by simp [idfL, idf, idfLL_iff, idf_Wd', idf_numI, cells_numI, numI_fold]) 14 rfl fun nx K hK => ?_
  refine AWP.seqk fun K1 hK1 => ?_
  refine AWP.region (AOPS.all (by simp (disch := first|omega|(simp only[ln];omega)) [idf_Wd', idf_numI, cells_numI, numI_fold]; rfl) ?_)
  refine hK1 _ ?_
  refine AWP.seqk fun K2 hK2 => ?_
  refine AWP.seqk fun K3 hK3 => ?_
  refine AWP.region (AOPS.all (by simp (disch := first|omega|(simp only[ln];omega)) [idf_Wd', idf_numI, cells_numI, numI_fold]; rfl) ?_)
  refine hK3 _ ?_
  refine cond_ok _ (by simp (disch := first|omega|(simp only[ln];omega)); rfl) (fun h4 => ?_) (fun h4 => ?_)
  · try simp only [decide_eq_true_eq, decide_eq_false_iff_not] at h4
    have hw : IntKind.u64.wrap n = n + 18446744073709551616 := by rw [wrap_u64m]; omega
    refine AWP.seqk fun K4 hK4 => ?_
    refine AWP.region ?_
    refine AOPS.runk 4 (by simp (disch := first|omega|(simp only[ln];omega)) [List.take_succ_cons, List.take_zero, idf_Wd', idf_numI, cells_numI, numI_fold, hw, wrap_u64m]; rfl) ?_
    simp only [List.drop_succ_cons, List.drop_zero]
    refine AOPS.frz1 8 (nx + 1) 1 (wd .u64 [-n]) (Wd .u64 [-n]) (by simp; rw [show -(n + 18446744073709551616) % 18446744073709551616 = -n by omega]) (by simp; rfl) ?_
    refine AOPS.fcall (made_fc true [-n] (by simp) (Dig.cons (by omega) (by omega) (Dig.nil _))) rfl rfl rfl hb174 (by simp (disch := first|omega|(simp only[ln];omega)) [idf_Wd', hw, wrap_u64m, idf_numI, cells_numI, numI_fold]) (by simp (disch := first|omega|(simp only[ln];omega)) [hw, wrap_u64m]) (by simp) ?_
    simp only [puts_some, updo]
    refine AOPS.all (by simp (disch := first|omega|(simp only[ln];omega)) [idf_Wd', idf_numI, cells_numI, numI_fold, hw, wrap_u64m]; rfl) ?_
    refine hK4 _ ?_
    refine AWP.ret ?_
    exact hK _ _ _ _ trivial ((Fin.mk (r := numI (sg true (val 18446744073709551616 [-n]))) (by simp [aRes, aResL, aRes1, idf_Wd', idf_numI, cells_numI, numI_fold])).cast (by congr 1; simp [sg, val]))
  · try simp only [decide_eq_true_eq, decide_eq_false_iff_not] at h4
    refine AWP.skip ?_
    refine hK2 _ ?_
    refine AWP.seqk fun K5 hK5 => ?_
    refine AWP.region ?_
    refine AOPS.runk 3 (by simp (disch := first|omega|(simp only[ln];omega)) [List.take_succ_cons, List.take_zero, idf_Wd', idf_numI, cells_numI, numI_fold]; rfl) ?_
    simp only [List.drop_succ_cons, List.drop_zero]
    refine AOPS.frz1 12 (nx + 1) 1 (wd .u64 [n]) (Wd .u64 [n]) (by simp) (by simp; rfl) ?_
    refine AOPS.fcall (made_fc false [n] (by simp) (Dig.cons (by omega) (by omega) (Dig.nil _))) rfl rfl rfl hb174 (by simp (disch := first|omega|(simp only[ln];omega)) [idf_Wd', idf_numI, cells_numI, numI_fold]) (by simp (disch := first|omega|(simp only[ln];omega))) (by simp) ?_
    simp only [puts_some, updo]
    refine AOPS.all (by simp (disch := first|omega|(simp only[ln];omega)) [idf_Wd', idf_numI, cells_numI, numI_fold]; rfl) ?_
    refine hK5 _ ?_
    refine AWP.ret ?_
    exact hK _ _ _ _ trivial ((Fin.mk (r := numI (sg false (val 18446744073709551616 [n]))) (by simp [aRes, aResL, aRes1, idf_Wd', idf_numI, cells_numI, numI_fold])).cast (by congr 1; simp [sg, val]))

theorem size_fc {k : Nat} {z : Int} (hz : Bg k z) (hk : k ≤ 1099511627776) : FC Try.prog 86 [numI z] (.int .i64 (bitLen z.natAbs : Int)) := by
  have lz : (mag z).length ≤ 1099511627776 := Nat.le_trans hz.len hk
  refine FC.body Try.func86 rfl (by simp [idfL, idf, idfLL_iff, idf_Wd', idf_numI, cells_numI, numI_fold]) (by simp [idfL, idf, idfLL_iff, idf_Wd', idf_numI, cells_numI, numI_fold]) 19 rfl fun nx K hK => ?_
  refine AWP.seqk fun K1 hK1 => ?_
  refine AWP.region (AOPS.all (by simp (disch := first|omega|(simp only[ln];omega)) [idf_Wd', idf_numI, cells_numI, numI_fold]; rfl) ?_)
  refine hK1 _ ?_
  refine AWP.seqk fun K2 hK2 => ?_
  refine AWP.region (AOPS.all (by simp (disch := first|omega|(simp only[ln];omega)) [len_Wd (P := Try.prog) #[117] rfl elT117, idf_Wd', idf_numI, cells_numI, numI_fold]; rfl) ?_)
  refine hK2 _ ?_
  refine AWP.seqk fun K3 hK3 => ?_
  refine AWP.seqk fun K4 hK4 => ?_
  refine AWP.region (AOPS.all (by simp (disch := first|omega|(simp only[ln];omega)) [idf_Wd', idf_numI, cells_numI, numI_fold]; rfl) ?_)
  refine hK4 _ ?_
  refine cond_ok _ (by simp (disch := first|omega|(simp only[ln];omega)); rfl) (fun h8 => ?_) (fun h8 => ?_)
  · try simp only [decide_eq_true_eq, decide_eq_false_iff_not] at h8
    have h0 : z = 0 := by simp at h8; exact mag_nil.mp h8
    refine AWP.seqk fun K5 hK5 => ?_
    refine AWP.region (AOPS.all (by simp (disch := first|omega|(simp only[ln];omega)) [idf_Wd', idf_numI, cells_numI, numI_fold]; rfl) ?_)
    refine hK5 _ ?_
    refine AWP.ret ?_
    exact hK _ _ _ _ trivial (Fin.mk (by simp [aRes, aResL, aRes1, h0, bitLen]))
  · try simp only [decide_eq_true_eq, decide_eq_false_iff_not] at h8
    have h0 : 0 < (mag z).length := by simp at h8; exact List.length_pos_iff.mpr h8
    have hg := (mag_dig z).gt (by omega) ((mag z).length - 1)
    obtain ⟨q, hq⟩ : ∃ q : Nat, gt (mag z) ((mag z).length - 1) = (q : Int) := ⟨_, (Int.toNat_of_nonneg hg.1).symm⟩
    have hs := bitLen_top z q h0 hq
    have hqb : bitLen q ≤ 64 := bitLen_le64 (by omega)
    have he : (((mag z).length : Int) - 1).toNat = (mag z).length - 1 := by omega
    refine AWP.skip ?_
    refine hK3 _ ?_
    refine AWP.seqk fun K6 hK6 => ?_
    refine AWP.region ?_
    refine AOPS.runk 8 (by simp (disch := first|omega|(simp only[ln];omega)) [List.take_succ_cons, List.take_zero, idx_WdD (P := Try.prog) elT117 szT24, if_pos, idf_Wd', idf_numI, cells_numI, numI_fold, he, hq, ld_ip agT24]; rfl) ?_
    simp only [List.drop_succ_cons, List.drop_zero]
    refine AOPS.fcall (lz64_fc q (by omega)) rfl rfl rfl hb171 (by simp (disch := first|omega|(simp only[ln];omega)) [idf_Wd', he, hq, ld_ip agT24, idf_numI, cells_numI, numI_fold]) (by simp (disch := first|omega|(simp only[ln];omega)) [he, hq, ld_ip agT24]) (by simp) ?_
    simp only [puts_some, updo]
    refine AOPS.all (by simp (disch := first|omega|(simp only[ln];omega)) [idx_WdD (P := Try.prog) elT117 szT24, if_pos, idf_Wd', idf_numI, cells_numI, numI_fold, he, hq, ld_ip agT24]; rfl) ?_
    refine hK6 _ ?_
    refine AWP.ret ?_
    exact hK _ _ _ _ trivial ((Fin.mk (by simp (disch := omega) [aRes, aResL, aRes1, idf_Wd', idf_numI, cells_numI, numI_fold]; rfl)).cast (by congr 1; omega))

end Go.Proofs.Ytmaebeknmiomnaa

/- Walks: products. -/
namespace Go.Proofs.Ytmaebeknmiomnaa
open Go Go.RowKit
set_option linter.unusedSimpArgs false
set_option linter.unusedVariables false
set_option maxRecDepth 100000
attribute [local simp] List.getElem?_cons_zero List.getElem?_cons_succ List.getElem?_toArray runOps stepOp.eq_def agd.eq_def dstOk.eq_def opVal.eq_def opNew.eq_def opSto.eq_def ev.eq_def cv.eq_def puts_some puts_none upd_ap lst.eq_def aBin.eq_def aUn.eq_def aBi_str aBi_isl aBi_osl aBi_nsl aBi_max aBi_min aBi_max3 aConv.eq_def aLd.eq_def aLoad.eq_def aField.eq_def aFld.eq_def aIdx_isl aIdx_osl aSlc_isl aSlc_osl aSlc_str aSlc_nsl bnd.eq_def evs_nil evs_cons aBuild.eq_def aFill splice.eq_def cells_agg cells_int cells_bool cells_str cells_nil cells_nsl cells_isl cells_osl cells_ptr cells_ip cells_fn cells_Wd one_int one_bool one_str one_nil one_nsl one_isl one_osl one_ptr one_ip one_fn one_Wd aSets hupd_eq hupd_ne wrap_i64s wrap_u64s wrap_u32s wrap_u8s wd_getD wd_set wd_len wd_replicate wd_one wd_fold fz_osl hupd_same aSix.eq_def aEqS.eq_def aEqB_bool aEqB_nsl aEqB_nil
attribute [local simp] szT3 byT3 agT3 unT3 zoT3 szT4 byT4 agT4 unT4 zoT4 szT24 byT24 agT24 unT24 zoT24 szT117 byT117 agT117 elT117 unT117 zoT117 szT119 byT119 agT119 flT119 fdT119_0 fdT119_1 zoT119

theorem sg_mul (a b : Int) : numI (sg (!(decide (a < 0) == decide (b < 0))) ((a.natAbs : Int) * (b.natAbs : Int))) = numI (a * b) := by
  congr 1
  rw [← Int.natCast_mul, ← Int.natAbs_mul]
  by_cases ha : a < 0 <;> by_cases hb : b < 0
  · have := Int.mul_nonneg (show 0 ≤ -a by omega) (show 0 ≤ -b by omega)
    rw [Int.neg_mul_neg] at this
    simp [sg, ha, hb]; omega
  · have := Int.mul_nonneg (show 0 ≤ -a by omega) (show 0 ≤ b by omega)
    rw [Int.neg_mul] at this
    simp [sg, ha, hb]; omega
  · have := Int.mul_nonneg (show 0 ≤ a by omega) (show 0 ≤ -b by omega)
    rw [Int.mul_neg] at this
    simp [sg, ha, hb]; omega
  · have := Int.mul_nonneg (show 0 ≤ a by omega) (show 0 ≤ b by omega)
    simp [sg, ha, hb]; omega
/-- The variables of 'by'. -/
def heapBy (nx : Nat) (a b : Int) : Heap := hupd (hupd (hupd (fun _ => none) nx (some (2, [[.bool (decide (a < 0)), Wd .u64 (mag a)]]))) (nx + 1) (some (2, [[.bool (decide (b < 0)), Wd .u64 (mag b)]]))) (nx + 1 + 1) (some (2, [[.bool false, .nsl]]))
theorem mul_step {x y o c : Int} (hx : 0 ≤ x ∧ x < 18446744073709551616) (hy : 0 ≤ y ∧ y < 18446744073709551616) (ho : 0 ≤ o ∧ o < 18446744073709551616) (hc : 0 ≤ c ∧ c < 18446744073709551616) :
    0 ≤ x * y / 18446744073709551616 + (x * y % 18446744073709551616 + c) / 18446744073709551616 ∧ x * y / 18446744073709551616 + (x * y % 18446744073709551616 + c) / 18446744073709551616 < 18446744073709551616 ∧
    0 ≤ x * y / 18446744073709551616 + (x * y % 18446744073709551616 + c) / 18446744073709551616 + (o + (x * y % 18446744073709551616 + c) % 18446744073709551616) / 18446744073709551616 ∧ x * y / 18446744073709551616 + (x * y % 18446744073709551616 + c) / 18446744073709551616 + (o + (x * y % 18446744073709551616 + c) % 18446744073709551616) / 18446744073709551616 < 18446744073709551616 ∧
    (o + (x * y + c)) % 18446744073709551616 + 18446744073709551616 * (x * y / 18446744073709551616 + (x * y % 18446744073709551616 + c) / 18446744073709551616 + (o + (x * y % 18446744073709551616 + c) % 18446744073709551616) / 18446744073709551616) = x * y + o + c := by
  have h0 : 0 ≤ x * y := Int.mul_nonneg hx.1 hy.1
  have h1 : x * y ≤ 18446744073709551615 * 18446744073709551615 := Int.mul_le_mul (by omega) (by omega) hy.1 (by omega)
  generalize x * y = p at *
  omega

set_option maxHeartbeats 1000000 in
theorem by_fc {j k : Nat} {a b : Int} (ha : Bg j a) (hb : Bg k b) (hj : j ≤ 274877906944) (hk : k ≤ 274877906944) : FC Try.prog 92 [numI a, numI b] (numI (a * b)) := by
  have la : (mag a).length ≤ 274877906944 := Nat.le_trans ha.len hj
  have lb : (mag b).length ≤ 274877906944 := Nat.le_trans hb.len hk
  have da := mag_dig a
  have db := mag_dig b
  refine FC.body Try.func92 rfl (by simp [idfL, idf, idfLL_iff, idf_Wd', idf_numI, cells_numI, numI_fold]) (by simp [idfL, idf, idfLL_iff, idf_Wd', idf_numI, cells_numI, numI_fold]) 100 rfl fun nx K hK => ?_
  refine AWP.seqk fun K1 hK1 => ?_
  refine AWP.region (AOPS.all (by simp (disch := first|omega|(simp only[ln];omega)) [idf_Wd', idf_numI, cells_numI, numI_fold]; rfl) ?_)
  refine hK1 _ ?_
  refine AWP.seqk fun K2 hK2 => ?_
  refine AWP.seqk fun K3 hK3 => ?_
  by_cases ha0 : mag a = []
  · refine AWP.region (AOPS.all (by simp (disch := first|omega|(simp only[ln];omega)) [len_Wd (P := Try.prog) #[117] rfl elT117, idf_Wd', idf_numI, cells_numI, numI_fold, ha0]; rfl) ?_)
    refine hK3 _ ?_
    refine cond_ok _ (by simp (disch := first|omega|(simp only[ln];omega)); rfl) (fun h23 => ?_) (fun h23 => ?_)
    · try simp only [decide_eq_true_eq, decide_eq_false_iff_not] at h23
      refine AWP.seqk fun K4 hK4 => ?_
      refine AWP.region (AOPS.all (by simp (disch := first|omega|(simp only[ln];omega)) [idf_Wd', idf_numI, cells_numI, numI_fold]; rfl) ?_)
      refine hK4 _ ?_
      refine AWP.ret ?_
      exact hK _ _ _ _ trivial ((Fin.mk (r := .agg [.bool false, .nsl]) (by simp [aRes, aResL, aRes1, idf_Wd', idf_numI, cells_numI, numI_fold])).weak (by rw [mag_nil.mp ha0, Int.zero_mul]; exact fun _ _ _ _ => num0_weak))
    · simp at h23
  · have ea : (((mag a).length : Int) == 0) = false := beq_eq_false_iff_ne.mpr (by have := List.length_pos_iff.mpr ha0; omega)
    by_cases hb0 : mag b = []
    · refine AWP.region (AOPS.all (by simp (disch := first|omega|(simp only[ln];omega)) [len_Wd (P := Try.prog) #[117] rfl elT117, idf_Wd', idf_numI, cells_numI, numI_fold, ea, hb0]; rfl) ?_)
      refine hK3 _ ?_
      refine cond_ok _ (by simp (disch := first|omega|(simp only[ln];omega)); rfl) (fun h23 => ?_) (fun h23 => ?_)
      · try simp only [decide_eq_true_eq, decide_eq_false_iff_not] at h23
        refine AWP.seqk fun K5 hK5 => ?_
        refine AWP.region (AOPS.all (by simp (disch := first|omega|(simp only[ln];omega)) [idf_Wd', idf_numI, cells_numI, numI_fold]; rfl) ?_)
        refine hK5 _ ?_
        refine AWP.ret ?_
        exact hK _ _ _ _ trivial ((Fin.mk (r := .agg [.bool false, .nsl]) (by simp [aRes, aResL, aRes1, idf_Wd', idf_numI, cells_numI, numI_fold])).weak (by rw [mag_nil.mp hb0, Int.mul_zero]; exact fun _ _ _ _ => num0_weak))
      · simp at h23
    · have eb : (((mag b).length : Int) == 0) = false := beq_eq_false_iff_ne.mpr (by have := List.length_pos_iff.mpr hb0; omega)
      refine AWP.region (AOPS.all (by simp (disch := first|omega|(simp only[ln];omega)) [len_Wd (P := Try.prog) #[117] rfl elT117, idf_Wd', idf_numI, cells_numI, numI_fold, ea, eb]; rfl) ?_)
      refine hK3 _ ?_
      refine cond_ok _ (by simp (disch := first|omega|(simp only[ln];omega)); rfl) (fun h23 => ?_) (fun h23 => ?_)
      · simp at h23
      · try simp only [decide_eq_true_eq, decide_eq_false_iff_not] at h23
        refine AWP.skip ?_
        refine hK2 _ ?_
        refine AWP.seqk fun K6 hK6 => ?_
        refine AWP.region (AOPS.all (by simp (disch := first|omega|(simp only[ln];omega)) [if_pos, len_Wd (P := Try.prog) #[117] rfl elT117, idf_Wd', idf_numI, cells_numI, numI_fold]; rfl) ?_)
        refine hK6 _ ?_
        refine AWP.seqk fun K7 hK7 => ?_
        refine AWP.seqk fun K8 hK8 => ?_
        refine AWP.region (AOPS.all (by simp (disch := first|omega|(simp only[ln];omega)) [len_Wd (P := Try.prog) #[117] rfl elT117, idf_Wd', idf_numI, cells_numI, numI_fold]; rfl) ?_)
        refine hK8 _ ?_
        refine AWP.block ?_
        refine AWP.loop (fun n s => ∃ i out, n = (mag a).length - i ∧ i ≤ (mag a).length ∧ out.length = (mag a).length + (mag b).length ∧ Dig 18446744073709551616 out ∧ val 18446744073709551616 out = val 18446744073709551616 ((mag a).take i) * val 18446744073709551616 (mag b) ∧ (∀ q, i + (mag b).length ≤ q → gt out q = 0) ∧ s.env 2 = .ptr nx 0 0 ∧ s.env 3 = .ptr (nx + 1) 0 0 ∧ s.env 4 = .ptr (nx + 1 + 1) 0 0 ∧ s.env 5 = .osl (nx + 1 + 1 + 1) 0 ((mag a).length + (mag b).length) ∧ s.env 34 = Wd .u64 (mag a) ∧ s.env 35 = .int .i64 (mag a).length ∧ s.env 36 = .int .i64 (i : Int) ∧ s.heap = hupd (heapBy nx a b) (nx + 1 + 1 + 1) (some (1, wd .u64 out)) ∧ s.nt = 100) ((mag a).length) (⟨0, List.replicate ((mag a).length + (mag b).length) 0, by omega, by omega, by simp, Dig.replicate _ (by omega) (by omega), by simp [val, val_replicate], by intro q _; simp [gt, List.getElem?_replicate]; split <;> rfl, by simp, by simp, by simp, by simp; omega, by simp, by simp, by simp, by simp [heapBy]; rfl, rfl⟩) ?_
        rintro n ⟨e, H, nx2, nt⟩ ⟨i, out, rfl, hi, ho, hd, hval, hz, h2, h3, h4, h5, h34, h35, h36, rfl, rfl⟩
        simp only [] at h2 h3 h4 h5 h34 h35 h36
        refine AWP.seqk fun K9 hK9 => ?_
        refine AWP.region (AOPS.all (by simp (disch := first|omega|(simp only[ln];omega)) [idf_Wd', idf_numI, cells_numI, numI_fold, h35, h36]; rfl) ?_)
        refine hK9 _ ?_
        refine AWP.seqk fun K10 hK10 => ?_
        refine cond_ok _ (by simp (disch := first|omega|(simp only[ln];omega)); rfl) (fun h37 => ?_) (fun h37 => ?_)
        · try simp only [decide_eq_true_eq, decide_eq_false_iff_not] at h37
          have hi' : i < (mag a).length := by omega
          refine AWP.skip ?_
          refine hK10 _ ?_
          refine AWP.seqk fun K11 hK11 => ?_
          refine AWP.block ?_
          refine AWP.seqk fun K12 hK12 => ?_
          refine AWP.region (AOPS.all (by simp (disch := first|omega|(simp only[ln];omega)) [idx_WdD (P := Try.prog) elT117 szT24, if_pos, idf_Wd', idf_numI, cells_numI, numI_fold, h34, h36, ld_ip agT24]; rfl) ?_)
          refine hK12 _ ?_
          refine AWP.seqk fun K13 hK13 => ?_
          refine AWP.region (AOPS.all (by simp (disch := first|omega|(simp only[ln];omega)) [idf_Wd', idf_numI, cells_numI, numI_fold]; rfl) ?_)
          refine hK13 _ ?_
          refine AWP.seqk fun K14 hK14 => ?_
          refine AWP.seqk fun K15 hK15 => ?_
          refine AWP.region (AOPS.all (by simp (disch := first|omega|(simp only[ln];omega)) [len_Wd (P := Try.prog) #[117] rfl elT117, idf_Wd', idf_numI, cells_numI, numI_fold, h3, heapBy]; rfl) ?_)
          refine hK15 _ ?_
          refine AWP.block ?_
          refine AWP.loop (fun n s => ∃ q out2 c, n = (mag b).length - q ∧ q ≤ (mag b).length ∧ out2.length = (mag a).length + (mag b).length ∧ Dig 18446744073709551616 out2 ∧ 0 ≤ c ∧ c < 18446744073709551616 ∧ val 18446744073709551616 out2 + c * (18446744073709551616 : Int) ^ (i + q) = val 18446744073709551616 ((mag a).take i) * val 18446744073709551616 (mag b) + (18446744073709551616 : Int) ^ i * gt (mag a) i * val 18446744073709551616 ((mag b).take q) ∧ (∀ j, i + (mag b).length ≤ j → gt out2 j = 0) ∧ s.env 2 = .ptr nx 0 0 ∧ s.env 3 = .ptr (nx + 1) 0 0 ∧ s.env 4 = .ptr (nx + 1 + 1) 0 0 ∧ s.env 5 = .osl (nx + 1 + 1 + 1) 0 ((mag a).length + (mag b).length) ∧ s.env 6 = .int .i64 (i : Int) ∧ s.env 7 = .int .u64 (gt (mag a) i) ∧ s.env 8 = .int .u64 c ∧ s.env 34 = Wd .u64 (mag a) ∧ s.env 35 = .int .i64 (mag a).length ∧ s.env 36 = .int .i64 (i : Int) ∧ s.env 42 = Wd .u64 (mag b) ∧ s.env 43 = .int .i64 (mag b).length ∧ s.env 44 = .int .i64 (q : Int) ∧ s.heap = hupd (heapBy nx a b) (nx + 1 + 1 + 1) (some (1, wd .u64 out2)) ∧ s.nt = 100) ((mag b).length) (⟨0, out, 0, by omega, by omega, ho, hd, by omega, by omega, by simp [val, hval], hz, by simp [h2], by simp [h3], by simp [h4], by simp [h5], by simp, by simp, by simp, by simp [h34], by simp [h35], by simp [h36], by simp, by simp, by simp, rfl, rfl⟩) ?_
          clear h2 h3 h4 h5 h34 h35 h36
          rintro n ⟨e, H, nx2, nt⟩ ⟨q, out2, c, rfl, hq, ho2, hd2, hc0, hc1, hval2, hz2, h2, h3, h4, h5, h6, h7, h8, h34, h35, h36, h42, h43, h44, rfl, rfl⟩
          simp only [] at h2 h3 h4 h5 h6 h7 h8 h34 h35 h36 h42 h43 h44
          refine AWP.seqk fun K16 hK16 => ?_
          refine AWP.region (AOPS.all (by simp (disch := first|omega|(simp only[ln];omega)) [idf_Wd', idf_numI, cells_numI, numI_fold, h43, h44]; rfl) ?_)
          refine hK16 _ ?_
          refine AWP.seqk fun K17 hK17 => ?_
          refine cond_ok _ (by simp (disch := first|omega|(simp only[ln];omega)); rfl) (fun h45 => ?_) (fun h45 => ?_)
          · try simp only [decide_eq_true_eq, decide_eq_false_iff_not] at h45
            have hq' : q < (mag b).length := by omega
            have hgx := da.gt (by omega) i
            have hgy := db.gt (by omega) q
            have hgo := hd2.gt (by omega) (i + q)
            have hms := mul_step hgx hgy hgo ⟨hc0, hc1⟩
            have hpr0 : 0 ≤ gt (mag a) i * gt (mag b) q := Int.mul_nonneg hgx.1 hgy.1
            have hiq : ((i : Int) + (q : Int)).toNat = i + q := by omega
            refine AWP.skip ?_
            refine hK17 _ ?_
            refine AWP.seqk fun K18 hK18 => ?_
            refine AWP.block ?_
            refine AWP.seqk fun K19 hK19 => ?_
            refine AWP.region (AOPS.all (by simp (disch := first|omega|(simp only[ln];omega)) [idx_WdD (P := Try.prog) elT117 szT24, if_pos, idf_Wd', idf_numI, cells_numI, numI_fold, h42, h44, ld_ip agT24]; rfl) ?_)
            refine hK19 _ ?_
            refine AWP.seqk fun K20 hK20 => ?_
            refine AWP.region ?_
            refine AOPS.runk 2 (by simp (disch := first|omega|(simp only[ln];omega)) [List.take_succ_cons, List.take_zero, idf_Wd', idf_numI, cells_numI, numI_fold, h7]; rfl) ?_
            simp only [List.drop_succ_cons, List.drop_zero]
            refine AOPS.fcall (mul64_fc (gt (mag a) i) (gt (mag b) q) hgx.1 hgx.2 hgy.1 hgy.2) rfl rfl rfl hb177 (by simp (disch := first|omega|(simp only[ln];omega)) [idf_Wd', h7, idf_numI, cells_numI, numI_fold]) (by simp (disch := first|omega|(simp only[ln];omega)) [h7]) (by simp) ?_
            simp only [puts_some, updo]
            refine AOPS.all (by simp (disch := first|omega|(simp only[ln];omega)) [idf_Wd', idf_numI, cells_numI, numI_fold, h7]; rfl) ?_
            refine hK20 _ ?_
            refine AWP.seqk fun K21 hK21 => ?_
            refine AWP.region (AOPS.all (by simp (disch := first|omega|(simp only[ln];omega)) [idf_Wd', idf_numI, cells_numI, numI_fold]; rfl) ?_)
            refine hK21 _ ?_
            refine AWP.seqk fun K22 hK22 => ?_
            refine AWP.region ?_
            refine AOPS.runk 2 (by simp (disch := first|omega|(simp only[ln];omega)) [List.take_succ_cons, List.take_zero, idf_Wd', idf_numI, cells_numI, numI_fold, h8]; rfl) ?_
            simp only [List.drop_succ_cons, List.drop_zero]
            refine AOPS.ecall (FE.add64 nb178 (gt (mag a) i * gt (mag b) q % 18446744073709551616) c 0 (by omega) hc0 (by omega) (by omega)) rfl rfl rfl (by simp (disch := first|omega|(simp only[ln];omega)) [idf_Wd', h8, idf_numI, cells_numI, numI_fold]) (by simp (disch := first|omega|(simp only[ln];omega)) [h8]) (by simp) ?_
            simp only [puts_some, updo]
            refine AOPS.all (by simp (disch := first|omega|(simp only[ln];omega)) [idf_Wd', idf_numI, cells_numI, numI_fold, h8]; rfl) ?_
            refine hK22 _ ?_
            refine AWP.seqk fun K23 hK23 => ?_
            refine AWP.region (AOPS.all (by simp (disch := first|omega|(simp only[ln];omega)) [idf_Wd', idf_numI, cells_numI, numI_fold]; rfl) ?_)
            refine hK23 _ ?_
            refine AWP.seqk fun K24 hK24 => ?_
            refine AWP.region ?_
            refine AOPS.runk 11 (by simp (disch := first|omega|(simp only[ln];omega)) [List.take_succ_cons, List.take_zero, idx_WdD (P := Try.prog) elT117 szT24, if_pos, idf_Wd', idf_numI, cells_numI, numI_fold, h5, h6, hiq, ho2, ld_ip agT24]; rfl) ?_
            simp only [List.drop_succ_cons, List.drop_zero]
            refine AOPS.ecall (FE.add64 nb178 (gt out2 (i + q)) ((gt (mag a) i * gt (mag b) q % 18446744073709551616 + c) % 18446744073709551616) 0 hgo.1 (by omega) (by omega) (by omega)) rfl rfl rfl (by simp (disch := first|omega|(simp only[ln];omega)) [idf_Wd', h5, h6, hiq, ho2, ld_ip agT24, idf_numI, cells_numI, numI_fold]) (by simp (disch := first|omega|(simp only[ln];omega)) [h5, h6, hiq, ho2, ld_ip agT24]) (by simp) ?_
            simp only [puts_some, updo]
            refine AOPS.all (by simp (disch := first|omega|(simp only[ln];omega)) [idx_WdD (P := Try.prog) elT117 szT24, if_pos, idf_Wd', idf_numI, cells_numI, numI_fold, h5, h6, hiq, ho2, ld_ip agT24]; rfl) ?_
            refine hK24 _ ?_
            refine AWP.region (AOPS.all (by simp (disch := first|omega|(simp only[ln];omega)) [idf_Wd', idf_numI, cells_numI, numI_fold]; rfl) ?_)
            refine hK18 _ ?_
            refine AWP.region (AOPS.all (by simp (disch := first|omega|(simp only[ln];omega)) [idf_Wd', idf_numI, cells_numI, numI_fold, h44]; rfl) ?_)
            have hp1 : (18446744073709551616 : Int) ^ (i + (q + 1)) = (18446744073709551616 : Int) ^ i * (18446744073709551616 : Int) ^ q * 18446744073709551616 := by rw [← Nat.add_assoc, Int.pow_succ, Int.pow_add]
            have hp2 : (18446744073709551616 : Int) ^ (i + q) = (18446744073709551616 : Int) ^ i * (18446744073709551616 : Int) ^ q := Int.pow_add _ _ _
            refine ⟨(mag b).length - (q + 1), by omega, q + 1, out2.set (i + q) ((gt out2 (i + q) + (gt (mag a) i * gt (mag b) q + c)) % 18446744073709551616), _, rfl, by omega, by simp [ho2], hd2.set _ (Int.emod_nonneg _ (by omega)) (Int.emod_lt_of_pos _ (by omega)), hms.2.2.1, hms.2.2.2.1, ?_, fun j hj => by rw [gt_set_ne (by omega)]; exact hz2 j (by omega), by simp [h2], by simp [h3], by simp [h4], by simp [h5], by simp [h6], by simp [h7], by simp, by simp [h34], by simp [h35], by simp [h36], by simp [h42], by simp [h43], by simp (disch := omega) [h44], by simp, rfl⟩
            rw [val_setB (by omega), val_take64, hp1]
            rw [hp2] at hval2 ⊢
            have := hms.2.2.2.2
            grind
          · try simp only [decide_eq_true_eq, decide_eq_false_iff_not] at h45
            obtain rfl : q = (mag b).length := by omega
            refine AWP.exit ?_
            refine hK14 _ ?_
            have hil : ((i : Int) + ((mag b).length : Int)).toNat = i + (mag b).length := by omega
            refine AWP.region (AOPS.all (by simp (disch := first|omega|(simp only[ln];omega)) [idx_WdD (P := Try.prog) elT117 szT24, if_pos, len_Wd (P := Try.prog) #[117] rfl elT117, idf_Wd', idf_numI, cells_numI, numI_fold, h3, h5, h6, h8, heapBy, ho2, hil]; rfl) ?_)
            refine hK11 _ ?_
            refine AWP.region (AOPS.all (by simp (disch := first|omega|(simp only[ln];omega)) [idf_Wd', idf_numI, cells_numI, numI_fold, h36]; rfl) ?_)
            have hpw : (18446744073709551616 : Int) ^ (i + (mag b).length) = (18446744073709551616 : Int) ^ i * (18446744073709551616 : Int) ^ (mag b).length := Int.pow_add _ _ _
            refine ⟨(mag a).length - (i + 1), by omega, i + 1, out2.set (i + (mag b).length) c, rfl, by omega, by simp [ho2], hd2.set _ hc0 hc1, ?_, fun j hj => by rw [gt_set_ne (by omega)]; exact hz2 j (by omega), by simp [h2], by simp [h3], by simp [h4], by simp [h5], by simp [h34], by simp [h35], by simp (disch := omega) [h36], by simp [heapBy], rfl⟩
            rw [val_take_all (Nat.le_refl _)] at hval2
            rw [val_setB (by omega), hz2 _ (Nat.le_refl _), val_take64]
            grind
        · try simp only [decide_eq_true_eq, decide_eq_false_iff_not] at h37
          obtain rfl : i = (mag a).length := by omega
          refine AWP.exit ?_
          refine hK7 _ ?_
          refine AWP.seqk fun K25 hK25 => ?_
          refine AWP.region ?_
          refine AOPS.runk 6 (by simp (disch := first|omega|(simp only[ln];omega)) [List.take_succ_cons, List.take_zero, idf_Wd', idf_numI, cells_numI, numI_fold, h2, h3, h4, h5, heapBy]; rfl) ?_
          simp only [List.drop_succ_cons, List.drop_zero]
          refine AOPS.frz1 98 (nx + 1 + 1 + 1) 1 (wd .u64 out) (Wd .u64 out) (by simp) (by simp; first | exact fz_wd (by omega) | exact isl_take_wd (by omega)) ?_
          refine AOPS.fcall (made_fc (!(decide (a < 0) == decide (b < 0))) out (by omega) hd) rfl rfl rfl hb174 (by simp (disch := first|omega|(simp only[ln];omega)) [idf_Wd', h2, h3, h4, h5, heapBy, idf_numI, cells_numI, numI_fold]) (by simp (disch := first|omega|(simp only[ln];omega)) [h2, h3, h4, h5, heapBy]) (by simp) ?_
          simp only [puts_some, updo]
          refine AOPS.all (by simp (disch := first|omega|(simp only[ln];omega)) [idf_Wd', idf_numI, cells_numI, numI_fold, h2, h3, h4, h5, heapBy]; rfl) ?_
          refine hK25 _ ?_
          refine AWP.ret ?_
          exact hK _ _ _ _ trivial ((Fin.mk (r := numI (sg (!(decide (a < 0) == decide (b < 0))) (val 18446744073709551616 out))) (by simp [aRes, aResL, aRes1, h4, idf_Wd', idf_numI, cells_numI, numI_fold])).cast (by rw [hval, val_take_all (Nat.le_refl _), mag_val, mag_val, sg_mul]))

end Go.Proofs.Ytmaebeknmiomnaa

/- Walks: numbers of 256 bits made numbers of any size. -/
namespace Go.Proofs.Ytmaebeknmiomnaa
open Go Go.RowKit
set_option linter.unusedSimpArgs false
set_option linter.unusedVariables false
set_option maxRecDepth 100000
attribute [local simp] List.getElem?_cons_zero List.getElem?_cons_succ List.getElem?_toArray runOps stepOp.eq_def agd.eq_def dstOk.eq_def opVal.eq_def opNew.eq_def opSto.eq_def ev.eq_def cv.eq_def puts_some puts_none upd_ap lst.eq_def aBin.eq_def aUn.eq_def aBi_str aBi_isl aBi_osl aBi_nsl aBi_max aBi_min aBi_max3 aConv.eq_def aLd.eq_def aLoad.eq_def aField.eq_def aFld.eq_def aIdx_isl aIdx_osl aSlc_isl aSlc_osl aSlc_str aSlc_nsl bnd.eq_def evs_nil evs_cons aBuild.eq_def aFill splice.eq_def cells_agg cells_int cells_bool cells_str cells_nil cells_nsl cells_isl cells_osl cells_ptr cells_ip cells_fn cells_Wd one_int one_bool one_str one_nil one_nsl one_isl one_osl one_ptr one_ip one_fn one_Wd aSets hupd_eq hupd_ne wrap_i64s wrap_u64s wrap_u32s wrap_u8s wd_getD wd_set wd_len wd_replicate wd_one wd_fold fz_osl hupd_same aSix.eq_def aEqS.eq_def aEqB_bool aEqB_nsl aEqB_nil
attribute [local simp] szT3 byT3 agT3 unT3 zoT3 szT4 byT4 agT4 unT4 zoT4 szT24 byT24 agT24 unT24 zoT24 szT26 byT26 agT26 flT26 fdT26_0 fdT26_1 fdT26_2 fdT26_3 zoT26 szT117 byT117 agT117 elT117 unT117 zoT117 szT119 byT119 agT119 flT119 fdT119_0 fdT119_1 zoT119

theorem digs_len5 {l : List Int} (h : Dig 18446744073709551616 l) : (digs 18446744073709551616 (val 18446744073709551616 (trimW l) + val 18446744073709551616 [1]).toNat).length ≤ l.length + 1 := by
  refine digs_length_le (by omega) _ _ ?_
  have h1 := val_lt h
  have h2 := val_nonneg h
  rw [trimW_val]
  have e : ((18446744073709551616 : Nat) : Int) ^ l.length = ((18446744073709551616 ^ l.length : Nat) : Int) := by rw [Int.natCast_pow]
  rw [e] at h1
  rw [Nat.pow_succ]
  simp only [val]
  omega

set_option maxHeartbeats 1000000 in
theorem wideNum_fc (w3 w2 w1 w0 : Int) (h3 : U64 w3) (h2 : U64 w2) (h1 : U64 w1) (h0 : U64 w0) : FC Try.prog 91 [wdI w3 w2 w1 w0] (numI (sval w3 w2 w1 w0)) := by
  refine FC.body Try.func91 rfl (by simp [idfL, idf, wdI]) (by simp [idfL, idf, idfLL_iff, idf_Wd', idf_numI, cells_numI, numI_fold]) 39 rfl fun nx K hK => ?_
  unfold wdI
  have hd4 := dig4 h0 h1 h2 h3
  unfold U64 at h0 h1 h2 h3
  refine AWP.seqk fun K1 hK1 => ?_
  refine AWP.region (AOPS.all (by simp (disch := first|omega|(simp only[ln];omega)) [idf_Wd', idf_numI, cells_numI, numI_fold]; rfl) ?_)
  refine hK1 _ ?_
  refine AWP.seqk fun K2 hK2 => ?_
  refine AWP.region (AOPS.all (by simp (disch := first|omega|(simp only[ln];omega)) [idf_Wd', idf_numI, cells_numI, numI_fold]; rfl) ?_)
  refine hK2 _ ?_
  refine AWP.seqk fun K3 hK3 => ?_
  refine AWP.seqk fun K4 hK4 => ?_
  refine AWP.region (AOPS.all (by simp (disch := first|omega|(simp only[ln];omega)) [idf_Wd', idf_numI, cells_numI, numI_fold, IntKind.bits, Int.fdiv_eq_ediv_of_nonneg]; rfl) ?_)
  refine hK4 _ ?_
  refine cond_ok _ (by simp (disch := first|omega|(simp only[ln];omega)); rfl) (fun h17 => ?_) (fun h17 => ?_)
  · try simp only [decide_eq_true_eq, decide_eq_false_iff_not] at h17
    have hs : w3 < 9223372036854775808 := by simp at h17; omega
    refine AWP.seqk fun K5 hK5 => ?_
    refine AWP.region ?_
    refine AOPS.runk 1 (by simp (disch := first|omega|(simp only[ln];omega)) [List.take_succ_cons, List.take_zero, idf_Wd', idf_numI, cells_numI, numI_fold]; rfl) ?_
    simp only [List.drop_succ_cons, List.drop_zero]
    refine AOPS.frz1 18 (nx + 1 + 1) 1 (wd .u64 [w0, w1, w2, w3]) (Wd .u64 [w0, w1, w2, w3]) (by simp) (by simp; first | exact fz_wd rfl | exact isl_take_wd (by simp)) ?_
    refine AOPS.fcall (made_fc false [w0, w1, w2, w3] (by simp) hd4) rfl rfl rfl hb174 (by simp (disch := first|omega|(simp only[ln];omega)) [idf_Wd', idf_numI, cells_numI, numI_fold]) (by simp (disch := first|omega|(simp only[ln];omega))) (by simp) ?_
    simp only [puts_some, updo]
    refine AOPS.all (by simp (disch := first|omega|(simp only[ln];omega)) [idf_Wd', idf_numI, cells_numI, numI_fold]; rfl) ?_
    refine hK5 _ ?_
    refine AWP.ret ?_
    exact hK _ _ _ _ trivial ((Fin.mk (r := numI (sg false (val 18446744073709551616 [w0, w1, w2, w3]))) (by simp [aRes, aResL, aRes1, idf_Wd', idf_numI, cells_numI, numI_fold])).cast (by rw [sg_false, val4, sval, if_pos hs]))
  · try simp only [decide_eq_true_eq, decide_eq_false_iff_not] at h17
    have hs : ¬ w3 < 9223372036854775808 := by simp at h17; omega
    refine AWP.skip ?_
    refine hK3 _ ?_
    refine AWP.seqk fun K6 hK6 => ?_
    refine AWP.seqk fun K7 hK7 => ?_
    refine AWP.region (AOPS.all (by simp (disch := first|omega|(simp only[ln];omega)) [len_Wd (P := Try.prog) #[117] rfl elT117, idf_Wd', idf_numI, cells_numI, numI_fold]; rfl) ?_)
    refine hK7 _ ?_
    refine AWP.block ?_
    refine AWP.loop (fun n s => ∃ i out, n = 4 - i ∧ i ≤ 4 ∧ out.length = 4 ∧ (∀ j, j < 4 → gt out j = if j < i then 18446744073709551615 - gt [w0, w1, w2, w3] j else gt [w0, w1, w2, w3] j) ∧ s.env 2 = .ptr (nx + 1) 0 0 ∧ s.env 3 = .osl (nx + 1 + 1) 0 4 ∧ s.env 21 = .int .i64 4 ∧ s.env 22 = .int .i64 (i : Int) ∧ s.heap = hupd (hupd (hupd (fun _ => none) nx (some (4, [[.int .u64 w3, .int .u64 w2, .int .u64 w1, .int .u64 w0]]))) (nx + 1) (some (2, [[.bool false, .nsl]]))) (nx + 1 + 1) (some (1, wd .u64 out)) ∧ s.nx = nx + 1 + 1 + 1 ∧ s.nt = 39) (4) (⟨0, [w0, w1, w2, w3], by omega, by omega, rfl, by intro j hj; simp, by simp, by simp, by simp, by simp, by simp, rfl, rfl⟩) ?_
    rintro n ⟨e, H, nx2, nt⟩ ⟨i, out, rfl, hi, ho, hg, h2', h3', h21, h22, rfl, rfl, rfl⟩
    simp only [] at h2' h3' h21 h22
    refine AWP.seqk fun K8 hK8 => ?_
    refine AWP.region (AOPS.all (by simp (disch := first|omega|(simp only[ln];omega)) [idf_Wd', idf_numI, cells_numI, numI_fold, h21, h22]; rfl) ?_)
    refine hK8 _ ?_
    refine AWP.seqk fun K9 hK9 => ?_
    refine cond_ok _ (by simp (disch := first|omega|(simp only[ln];omega)); rfl) (fun h23 => ?_) (fun h23 => ?_)
    · try simp only [decide_eq_true_eq, decide_eq_false_iff_not] at h23
      have hi' : i < 4 := by omega
      have hgi : 0 ≤ gt out i ∧ gt out i < 18446744073709551616 := by
        have := hg i hi'
        rw [if_neg (Nat.lt_irrefl i)] at this
        rw [this]; exact hd4.gt (by omega) i
      have hx := not_u64 hgi.1 hgi.2
      refine AWP.skip ?_
      refine hK9 _ ?_
      refine AWP.seqk fun K10 hK10 => ?_
      refine AWP.block ?_
      refine AWP.seqk fun K11 hK11 => ?_
      refine AWP.region (AOPS.all (by simp (disch := first|omega|(simp only[ln];omega)) [idf_Wd', idf_numI, cells_numI, numI_fold, h22]; rfl) ?_)
      refine hK11 _ ?_
      refine AWP.region (AOPS.all (by simp (disch := first|omega|(simp only[ln];omega)) [idx_WdD (P := Try.prog) elT117 szT24, if_pos, idf_Wd', idf_numI, cells_numI, numI_fold, h3', ho, hx, ld_ip agT24]; rfl) ?_)
      refine hK10 _ ?_
      refine AWP.region (AOPS.all (by simp (disch := first|omega|(simp only[ln];omega)) [idf_Wd', idf_numI, cells_numI, numI_fold, h22]; rfl) ?_)
      refine ⟨4 - (i + 1), by omega, i + 1, out.set i (18446744073709551615 - gt out i), rfl, by omega, by simp [ho], ?_, by simp [h2'], by simp [h3'], by simp [h21], by simp (disch := omega) [h22], by simp, rfl, rfl⟩
      intro j hj
      by_cases hji : j = i
      · subst hji; rw [gt_set (by omega), hg _ hj]; simp
      · rw [gt_set_ne (Ne.symm hji), hg _ hj]
        by_cases hlt : j < i
        · rw [if_pos hlt, if_pos (by omega)]
        · rw [if_neg hlt, if_neg (by omega)]
    · try simp only [decide_eq_true_eq, decide_eq_false_iff_not] at h23
      obtain rfl : i = 4 := by omega
      obtain rfl : out = [18446744073709551615 - w0, 18446744073709551615 - w1, 18446744073709551615 - w2, 18446744073709551615 - w3] := by
        rw [list4 ho, hg 0 (by omega), hg 1 (by omega), hg 2 (by omega), hg 3 (by omega)]; rfl
      refine AWP.exit ?_
      refine hK6 _ ?_
      refine AWP.seqk fun K12 hK12 => ?_
      have hdo : Dig 18446744073709551616 [18446744073709551615 - w0, 18446744073709551615 - w1, 18446744073709551615 - w2, 18446744073709551615 - w3] := dig4 ⟨by omega, by omega⟩ ⟨by omega, by omega⟩ ⟨by omega, by omega⟩ ⟨by omega, by omega⟩
      refine AWP.region ?_
      refine AOPS.runk 1 (by simp (disch := first|omega|(simp only[ln];omega)) [List.take_succ_cons, List.take_zero, idf_Wd', idf_numI, cells_numI, numI_fold, h2', h3']; rfl) ?_
      simp only [List.drop_succ_cons, List.drop_zero]
      refine AOPS.frz1 34 (nx + 1 + 1) 1 (wd .u64 [18446744073709551615 - w0, 18446744073709551615 - w1, 18446744073709551615 - w2, 18446744073709551615 - w3]) (Wd .u64 [18446744073709551615 - w0, 18446744073709551615 - w1, 18446744073709551615 - w2, 18446744073709551615 - w3]) (by simp) (by simp [h3']; first | exact fz_wd rfl | exact isl_take_wd (by simp)) ?_
      refine AOPS.fcall (trim_fc [18446744073709551615 - w0, 18446744073709551615 - w1, 18446744073709551615 - w2, 18446744073709551615 - w3] (by simp) ) rfl rfl rfl hb176 (by simp (disch := first|omega|(simp only[ln];omega)) [idf_Wd', h2', h3', idf_numI, cells_numI, numI_fold]) (by simp (disch := first|omega|(simp only[ln];omega)) [h2', h3']) (by simp) ?_
      simp only [puts_some, updo]
      refine AOPS.runk 1 (by simp (disch := first|omega|(simp only[ln];omega)) [List.take_succ_cons, List.take_zero, idf_Wd', idf_numI, cells_numI, numI_fold, h2', h3']; rfl) ?_
      simp only [List.drop_succ_cons, List.drop_zero]
      refine AOPS.frz1 36 (nx + 1 + 1 + 1) 1 (wd .u64 [1]) (Wd .u64 [1]) (by simp) (by simp; first | exact fz_wd rfl | exact isl_take_wd (by simp)) ?_
      refine AOPS.fcall (addWords_fc (trimW [18446744073709551615 - w0, 18446744073709551615 - w1, 18446744073709551615 - w2, 18446744073709551615 - w3]) [1] (Nat.le_trans (trimW_length _) (by simp)) (by simp) (hdo.trim) (Dig.cons (by omega) (by omega) (Dig.nil _))) rfl rfl rfl hb175 (by simp (disch := first|omega|(simp only[ln];omega)) [idf_Wd', h2', h3', idf_numI, cells_numI, numI_fold]) (by simp (disch := first|omega|(simp only[ln];omega)) [h2', h3']) (by simp) ?_
      simp only [puts_some, updo]
      refine AOPS.fcall (made_fc true (digs 18446744073709551616 (val 18446744073709551616 (trimW [18446744073709551615 - w0, 18446744073709551615 - w1, 18446744073709551615 - w2, 18446744073709551615 - w3]) + val 18446744073709551616 [1]).toNat) (Nat.le_trans (digs_len5 hdo) (by simp)) (digs_dig (by omega) _)) rfl rfl rfl hb174 (by simp (disch := first|omega|(simp only[ln];omega)) [idf_Wd', h2', h3', idf_numI, cells_numI, numI_fold]) (by simp (disch := first|omega|(simp only[ln];omega)) [h2', h3']) (by simp) ?_
      simp only [puts_some, updo]
      refine AOPS.all (by simp (disch := first|omega|(simp only[ln];omega)) [idf_Wd', idf_numI, cells_numI, numI_fold, h2', h3']; rfl) ?_
      refine hK12 _ ?_
      refine AWP.ret ?_
      exact hK _ _ _ _ trivial ((Fin.mk (r := numI (sg true (val 18446744073709551616 (digs 18446744073709551616 (val 18446744073709551616 (trimW [18446744073709551615 - w0, 18446744073709551615 - w1, 18446744073709551615 - w2, 18446744073709551615 - w3]) + val 18446744073709551616 [1]).toNat)))) (by simp [aRes, aResL, aRes1, h2', idf_Wd', idf_numI, cells_numI, numI_fold])).cast (by rw [sg_true, digs_val (by omega), trimW_val, val4, comp4, sval, if_neg hs]; congr 1; simp [val]; unfold uval; omega))

end Go.Proofs.Ytmaebeknmiomnaa

/- Walks: copies of rows; numbers told in 256 bits. -/
namespace Go.Proofs.Ytmaebeknmiomnaa
open Go Go.RowKit
set_option linter.unusedSimpArgs false
set_option linter.unusedVariables false
set_option maxRecDepth 100000
attribute [local simp] List.getElem?_cons_zero List.getElem?_cons_succ List.getElem?_toArray runOps stepOp.eq_def agd.eq_def dstOk.eq_def opVal.eq_def opNew.eq_def opSto.eq_def ev.eq_def cv.eq_def puts_some puts_none upd_ap lst.eq_def aBin.eq_def aUn.eq_def aBi_str aBi_isl aBi_osl aBi_nsl aBi_max aBi_min aBi_max3 aConv.eq_def aLd.eq_def aLoad.eq_def aField.eq_def aFld.eq_def aIdx_isl aIdx_osl aSlc_isl aSlc_osl aSlc_str aSlc_nsl bnd.eq_def evs_nil evs_cons aBuild.eq_def aFill splice.eq_def cells_agg cells_int cells_bool cells_str cells_nil cells_nsl cells_isl cells_osl cells_ptr cells_ip cells_fn cells_Wd one_int one_bool one_str one_nil one_nsl one_isl one_osl one_ptr one_ip one_fn one_Wd aSets hupd_eq hupd_ne wrap_i64s wrap_u64s wrap_u32s wrap_u8s wd_getD wd_set wd_len wd_replicate wd_one wd_fold fz_osl hupd_same aSix.eq_def aEqS.eq_def aEqB_bool aEqB_nsl aEqB_nil
attribute [local simp] szT2 byT2 agT2 unT2 zoT2 szT3 byT3 agT3 unT3 zoT3 szT4 byT4 agT4 unT4 zoT4 szT24 byT24 agT24 unT24 zoT24 szT26 byT26 agT26 flT26 fdT26_0 fdT26_1 fdT26_2 fdT26_3 zoT26 szT117 byT117 agT117 elT117 unT117 zoT117 szT119 byT119 agT119 flT119 fdT119_0 fdT119_1 zoT119

theorem gt_app0 (l : List Int) (j : Nat) : gt (l ++ [0, 0, 0, 0]) j = gt l j := by
  unfold gt
  by_cases h : j < l.length
  · rw [List.getElem?_append_left h]
  · rw [List.getElem?_append_right (by omega), List.getElem?_eq_none (l := l) (by omega)]
    match j - l.length with
    | 0 => rfl
    | 1 => rfl
    | 2 => rfl
    | 3 => rfl
    | k + 4 => simp

theorem clone_fc (l : List Int) (hl : l.length ≤ 1099511627776) : FC Try.prog 173 [Wd .u64 l] (Wd .u64 l) := by
  refine FC.body Try.func173 rfl (by simp [idfL, idf, idfLL_iff, idf_Wd', idf_numI, cells_numI, numI_fold]) (by simp [idfL, idf, idfLL_iff, idf_Wd', idf_numI, cells_numI, numI_fold]) 8 rfl fun nx K hK => ?_
  refine AWP.seqk fun K1 hK1 => ?_
  refine AWP.region (AOPS.all (by simp (disch := first|omega|(simp only[ln];omega)) [idf_Wd', idf_numI, cells_numI, numI_fold]; rfl) ?_)
  refine hK1 _ ?_
  refine AWP.seqk fun K2 hK2 => ?_
  refine AWP.seqk fun K3 hK3 => ?_
  refine AWP.region ?_
  refine AOPS.runk 1 (by simp (disch := first|omega|(simp only[ln];omega)) [List.take_succ_cons, List.take_zero, idf_Wd', idf_numI, cells_numI, numI_fold]; rfl) ?_
  simp only [List.drop_succ_cons, List.drop_zero]
  refine AOPS.isnil (k := .u64) (l := l) rfl unT117 (by simp) (by simp) (by simp) fun q hq => ?_
  simp only [puts_some]
  refine AOPS.nil ?_
  refine hK3 _ ?_
  refine cond_ok _ (by simp (disch := first|omega|(simp only[ln];omega)); rfl) (fun h4 => ?_) (fun h4 => ?_)
  · try simp only [decide_eq_true_eq, decide_eq_false_iff_not] at h4
    refine AWP.seqk fun K4 hK4 => ?_
    refine AWP.region (AOPS.all (by simp (disch := first|omega|(simp only[ln];omega)) [idf_Wd', idf_numI, cells_numI, numI_fold]; rfl) ?_)
    refine hK4 _ ?_
    refine AWP.ret ?_
    exact hK _ _ _ _ trivial ((Fin.mk (r := .nsl) (by simp [aRes, aResL, aRes1, idf_Wd', idf_numI, cells_numI, numI_fold])).weak (by rw [hq h4]; exact fun _ _ _ _ => nsl_Wd .u64))
  · try simp only [decide_eq_true_eq, decide_eq_false_iff_not] at h4
    refine AWP.skip ?_
    refine hK2 _ ?_
    refine AWP.seqk fun K5 hK5 => ?_
    refine AWP.region ?_
    refine AOPS.runk 2 (by simp (disch := first|omega|(simp only[ln];omega)) [List.take_succ_cons, List.take_zero, idf_Wd', idf_numI, cells_numI, numI_fold]; rfl) ?_
    simp only [List.drop_succ_cons, List.drop_zero]
    refine AOPS.opapp (by simp (disch := first|omega|(simp only[ln];omega)) [opApp.eq_def, aSrc_isl, aSrc_osl, aSrc_nsl, aSrc_int, wd_app, wd_app2, if_pos, wd_append, wd_take, wd_drop, List.nil_append, idf_Wd', idf_numI, cells_numI, numI_fold, src_Wd' (P := Try.prog) elT117]; first | rfl | exact ⟨rfl, rfl⟩ | exact ⟨rfl, rfl, rfl⟩) (by simp) (by simp) ?_
    simp only [puts_some, hdrop]
    refine AOPS.all (by simp (disch := first|omega|(simp only[ln];omega)) [idf_Wd', idf_numI, cells_numI, numI_fold]; rfl) ?_
    refine hK5 _ ?_
    refine AWP.ret ?_
    exact hK _ _ _ _ trivial (((Fin.mk (r := .osl (nx + 1) 0 l.length) (by simp [aRes, aResL, aRes1, idf_Wd', idf_numI, cells_numI, numI_fold])).freeze (id := nx + 1) (z := 1) (es := wd .u64 l) (by simp)).cast (fz_wd rfl))

theorem clone_ac (l : List Int) (hl : l.length ≤ 1099511627776) (H : Heap) (nx : Nat) : ACall Try.prog 173 [Wd .u64 l] H nx (fun r H' nx' => (l = [] ∧ r = .nsl ∧ H' = H ∧ nx' = nx) ∨ (r = .osl (nx + 1) 0 l.length ∧ H' = hupd (hupd H nx none) (nx + 1) (some (1, wd .u64 l)) ∧ nx' = nx + 1 + 1)) := by
  refine ACall.body Try.func173 rfl 8 rfl fun K hK => ?_
  refine AWP.seqk fun K1 hK1 => ?_
  refine AWP.region (AOPS.all (by simp (disch := first|omega|(simp only[ln];omega)) [idf_Wd', idf_numI, cells_numI, numI_fold]; rfl) ?_)
  refine hK1 _ ?_
  refine AWP.seqk fun K2 hK2 => ?_
  refine AWP.seqk fun K3 hK3 => ?_
  refine AWP.region ?_
  refine AOPS.runk 1 (by simp (disch := first|omega|(simp only[ln];omega)) [List.take_succ_cons, List.take_zero, idf_Wd', idf_numI, cells_numI, numI_fold]; rfl) ?_
  simp only [List.drop_succ_cons, List.drop_zero]
  refine AOPS.isnil (k := .u64) (l := l) rfl unT117 (by simp) (by simp) (by simp) fun q hq => ?_
  simp only [puts_some]
  refine AOPS.nil ?_
  refine hK3 _ ?_
  refine cond_ok _ (by simp (disch := first|omega|(simp only[ln];omega)); rfl) (fun h4 => ?_) (fun h4 => ?_)
  · try simp only [decide_eq_true_eq, decide_eq_false_iff_not] at h4
    refine AWP.seqk fun K4 hK4 => ?_
    refine AWP.region (AOPS.all (by simp (disch := first|omega|(simp only[ln];omega)) [idf_Wd', idf_numI, cells_numI, numI_fold]; rfl) ?_)
    refine hK4 _ ?_
    refine AWP.ret ?_
    exact hK _ _ _ _ _ trivial (Fin.mk (r := .nsl) (by simp [aRes, aResL, aRes1, idf_Wd', idf_numI, cells_numI, numI_fold])) (Or.inl ⟨hq h4, rfl, rfl, rfl⟩)
  · try simp only [decide_eq_true_eq, decide_eq_false_iff_not] at h4
    refine AWP.skip ?_
    refine hK2 _ ?_
    refine AWP.seqk fun K5 hK5 => ?_
    refine AWP.region ?_
    refine AOPS.runk 2 (by simp (disch := first|omega|(simp only[ln];omega)) [List.take_succ_cons, List.take_zero, idf_Wd', idf_numI, cells_numI, numI_fold]; rfl) ?_
    simp only [List.drop_succ_cons, List.drop_zero]
    refine AOPS.opapp (by simp (disch := first|omega|(simp only[ln];omega)) [opApp.eq_def, aSrc_isl, aSrc_osl, aSrc_nsl, aSrc_int, wd_app, wd_app2, if_pos, wd_append, wd_take, wd_drop, List.nil_append, idf_Wd', idf_numI, cells_numI, numI_fold, src_Wd' (P := Try.prog) elT117]; first | rfl | exact ⟨rfl, rfl⟩ | exact ⟨rfl, rfl, rfl⟩) (by simp) (by simp) ?_
    simp only [puts_some, hdrop]
    refine AOPS.all (by simp (disch := first|omega|(simp only[ln];omega)) [idf_Wd', idf_numI, cells_numI, numI_fold]; rfl) ?_
    refine hK5 _ ?_
    refine AWP.ret ?_
    exact hK _ _ _ _ _ trivial (Fin.mk (r := .osl (nx + 1) 0 l.length) (by simp [aRes, aResL, aRes1, idf_Wd', idf_numI, cells_numI, numI_fold])) (Or.inr ⟨rfl, by simp, rfl⟩)

set_option maxHeartbeats 1000000 in
theorem wide_fc {k : Nat} {z : Int} (hz : Bg k z) (hk : k ≤ 274877906944) : FC Try.prog 90 [numI z] (.tup [wdT z, .bool (fits z)]) := by
  refine FC.body Try.func90 rfl (by simp [idfL, idf, idfLL_iff, idf_Wd', idf_numI, cells_numI, numI_fold]) (by simp [idfL, idf, idf_wdT]) 50 rfl fun nx K hK => ?_
  refine AWP.seqk fun K1 hK1 => ?_
  refine AWP.region (AOPS.all (by simp (disch := first|omega|(simp only[ln];omega)) [idf_Wd', idf_numI, cells_numI, numI_fold]; rfl) ?_)
  refine hK1 _ ?_
  refine AWP.seqk fun K2 hK2 => ?_
  refine AWP.region (AOPS.all (by simp (disch := first|omega|(simp only[ln];omega)) [idf_Wd', idf_numI, cells_numI, numI_fold]; rfl) ?_)
  refine hK2 _ ?_
  refine AWP.seqk fun K3 hK3 => ?_
  have J3 : ∀ s : St, (s.env 1 = .ptr nx 0 0 ∧ s.env 2 = .ptr (nx + 1) 0 0 ∧ s.env 4 = .ptr (nx + 1 + 1) 0 0 ∧ s.heap = hupd (hupd (hupd (fun _ => none) nx (some (2, [[.bool (decide (z < 0)), Wd .u64 (mag z)]]))) (nx + 1) (some (4, [[.int .u64 0, .int .u64 0, .int .u64 0, .int .u64 0]]))) (nx + 1 + 1) (some (2, [[.bool (decide ((if z < 0 then z + 1 else z) < 0)), Wd .u64 (mag (if z < 0 then z + 1 else z))]])) ∧ nx + 1 + 1 < s.nx ∧ s.nt = 50) → K3 s := by
    rintro ⟨e, H, m, nt⟩ ⟨h1, h2, h4, rfl, hm, rfl⟩
    simp only [] at h1 h2 h4 hm
    have hn : Bg (max k 1 + 1) (if z < 0 then z + 1 else z) := by
      split
      · exact hz.add (Bg.i64 (by omega) (by omega))
      · exact hz.le (by omega)
    have hfit := fits_iff (z := z)
    have hneg : z < 0 → ((if z < 0 then z + 1 else z).natAbs : Int) = -z - 1 := by intro h; rw [if_pos h]; omega
    have hpos : ¬ z < 0 → ((if z < 0 then z + 1 else z).natAbs : Int) = z := by intro h; rw [if_neg h]; omega
    generalize (if z < 0 then z + 1 else z) = n at *
    refine hK3 _ ?_
    refine AWP.seqk fun K4 hK4 => ?_
    refine AWP.seqk fun K5 hK5 => ?_
    refine AWP.region ?_
    refine AOPS.runk 1 (by simp (disch := first|omega|(simp only[ln];omega)) [List.take_succ_cons, List.take_zero, idf_Wd', idf_numI, cells_numI, numI_fold, h4]; rfl) ?_
    simp only [List.drop_succ_cons, List.drop_zero]
    refine AOPS.fcall (size_fc hn (by omega)) rfl rfl rfl hb86 (by simp (disch := first|omega|(simp only[ln];omega)) [idf_Wd', h4, idf_numI, cells_numI, numI_fold]) (by simp (disch := first|omega|(simp only[ln];omega)) [h4]) (by simp) ?_
    simp only [puts_some, updo]
    refine AOPS.all (by simp (disch := first|omega|(simp only[ln];omega)) [idf_Wd', idf_numI, cells_numI, numI_fold, h4]; rfl) ?_
    refine hK5 _ ?_
    refine cond_ok _ (by simp (disch := first|omega|(simp only[ln];omega)); rfl) (fun h15 => ?_) (fun h15 => ?_)
    · try simp only [decide_eq_true_eq, decide_eq_false_iff_not] at h15
      have hf : fits z = false := by
        cases h : fits z with
        | false => rfl
        | true => have := hfit.mpr h; omega
      refine AWP.seqk fun K6 hK6 => ?_
      refine AWP.region (AOPS.all (by simp (disch := first|omega|(simp only[ln];omega)) [idf_Wd', idf_numI, cells_numI, numI_fold, h2]; rfl) ?_)
      refine hK6 _ ?_
      refine AWP.ret ?_
      exact hK _ _ _ _ trivial ((Fin.mk (by simp (disch := omega) [aRes, aResL, aRes1, h2, idf_Wd', idf_numI, cells_numI, numI_fold]; rfl)).cast (by simp [wdT, hf, wdI]))
    · try simp only [decide_eq_true_eq, decide_eq_false_iff_not] at h15
      have hf : fits z = true := hfit.mp (by omega)
      have hl4 : (mag n).length ≤ 4 := Bg.len (k := 4) (by
        have := bitLen_le.mp (hfit.mpr hf)
        exact Nat.lt_of_lt_of_le this (by decide))
      refine AWP.skip ?_
      refine hK4 _ ?_
      refine AWP.seqk fun K7 hK7 => ?_
      have J7 : ∀ s : St, (∃ id, s.env 1 = .ptr nx 0 0 ∧ s.env 2 = .ptr (nx + 1) 0 0 ∧ s.env 5 = .osl id 0 ((mag n).length + 4) ∧ s.heap nx = some (2, [[.bool (decide (z < 0)), Wd .u64 (mag z)]]) ∧ s.heap (nx + 1) = some (4, [[.int .u64 0, .int .u64 0, .int .u64 0, .int .u64 0]]) ∧ s.heap id = some (1, wd .u64 (mag n ++ [0, 0, 0, 0])) ∧ nx + 1 < id ∧ s.nt = 50) → K7 s := by
        clear h1 h2 h4
        rintro ⟨e, H, m2, nt⟩ ⟨id, h1, h2, h5, hA, hB, hC, hid, rfl⟩
        simp only [] at h1 h2 h5 hA hB hC
        refine hK7 _ ?_
        refine AWP.seqk fun K8 hK8 => ?_
        refine AWP.seqk fun K9 hK9 => ?_
        refine AWP.region (AOPS.all (by simp (disch := first|omega|(simp only[ln];omega)) [idf_Wd', idf_numI, cells_numI, numI_fold, h1, hA]; rfl) ?_)
        refine hK9 _ ?_
        refine cond_ok _ (by simp (disch := first|omega|(simp only[ln];omega)); rfl) (fun h22 => ?_) (fun h22 => ?_)
        · try simp only [decide_eq_true_eq, decide_eq_false_iff_not] at h22
          have hzn : z < 0 := by simpa using h22
          refine AWP.seqk fun K10 hK10 => ?_
          refine AWP.region (AOPS.all (by simp (disch := first|omega|(simp only[ln];omega)) [len_Wd (P := Try.prog) #[117] rfl elT117, idf_Wd', idf_numI, cells_numI, numI_fold, h5, hC]; rfl) ?_)
          refine hK10 _ ?_
          refine AWP.block ?_
          refine AWP.loop (fun n' s => ∃ i out, n' = (mag n).length + 4 - i ∧ i ≤ (mag n).length + 4 ∧ out.length = (mag n).length + 4 ∧ (∀ j, j < (mag n).length + 4 → gt out j = if j < i then 18446744073709551615 - gt (mag n ++ [0, 0, 0, 0]) j else gt (mag n ++ [0, 0, 0, 0]) j) ∧ s.env 2 = .ptr (nx + 1) 0 0 ∧ s.env 5 = .osl id 0 ((mag n).length + 4) ∧ s.env 24 = .int .i64 ((mag n).length + 4 : Nat) ∧ s.env 25 = .int .i64 (i : Int) ∧ s.heap (nx + 1) = some (4, [[.int .u64 0, .int .u64 0, .int .u64 0, .int .u64 0]]) ∧ s.heap id = some (1, wd .u64 out) ∧ s.nt = 50) ((mag n).length + 4) (⟨0, mag n ++ [0, 0, 0, 0], by omega, by omega, by simp, by intro j hj; simp, by simp [h2], by simp [h5], by simp, by simp, by simp [hB], by simp [hC], rfl⟩) ?_
          clear h1 h2 h5 hA hB hC
          rintro n' ⟨e, H, m3, nt⟩ ⟨i, out, rfl, hi, ho, hg, h2, h5, h24, h25, hB, hC, rfl⟩
          simp only [] at h2 h5 h24 h25 hB hC
          refine AWP.seqk fun K11 hK11 => ?_
          refine AWP.region (AOPS.all (by simp (disch := first|omega|(simp only[ln];omega)) [idf_Wd', idf_numI, cells_numI, numI_fold, h24, h25]; rfl) ?_)
          refine hK11 _ ?_
          refine AWP.seqk fun K12 hK12 => ?_
          refine cond_ok _ (by simp (disch := first|omega|(simp only[ln];omega)); rfl) (fun h26 => ?_) (fun h26 => ?_)
          · try simp only [decide_eq_true_eq, decide_eq_false_iff_not] at h26
            have hi' : i < (mag n).length + 4 := by omega
            have hgi : 0 ≤ gt out i ∧ gt out i < 18446744073709551616 := by
              have := hg i hi'
              rw [if_neg (Nat.lt_irrefl i)] at this
              rw [this]; exact (Dig.append (mag_dig n) (dig4 (by unfold U64; omega) (by unfold U64; omega) (by unfold U64; omega) (by unfold U64; omega))).gt (by omega) i
            have hx := not_u64 hgi.1 hgi.2
            refine AWP.skip ?_
            refine hK12 _ ?_
            refine AWP.seqk fun K13 hK13 => ?_
            refine AWP.block ?_
            refine AWP.seqk fun K14 hK14 => ?_
            refine AWP.region (AOPS.all (by simp (disch := first|omega|(simp only[ln];omega)) [idf_Wd', idf_numI, cells_numI, numI_fold, h25]; rfl) ?_)
            refine hK14 _ ?_
            refine AWP.region (AOPS.all (by simp (disch := first|omega|(simp only[ln];omega)) [idx_WdD (P := Try.prog) elT117 szT24, if_pos, idf_Wd', idf_numI, cells_numI, numI_fold, h5, hC, ho, hx, ld_ip agT24]; rfl) ?_)
            refine hK13 _ ?_
            refine AWP.region (AOPS.all (by simp (disch := first|omega|(simp only[ln];omega)) [idf_Wd', idf_numI, cells_numI, numI_fold, h25]; rfl) ?_)
            refine ⟨(mag n).length + 4 - (i + 1), by omega, i + 1, out.set i (18446744073709551615 - gt out i), rfl, by omega, by simp [ho], ?_, by simp [h2], by simp [h5], by simp [h24], by simp (disch := omega) [h25], by simp (disch := omega) [hB], by simp, rfl⟩
            intro j hj
            by_cases hji : j = i
            · subst hji; rw [gt_set (by omega), hg _ hj]; simp
            · rw [gt_set_ne (Ne.symm hji), hg _ hj]
              by_cases hlt : j < i
              · rw [if_pos hlt, if_pos (by omega)]
              · rw [if_neg hlt, if_neg (by omega)]
          · try simp only [decide_eq_true_eq, decide_eq_false_iff_not] at h26
            obtain rfl : i = (mag n).length + 4 := by omega
            refine AWP.exit ?_
            refine hK8 _ ?_
            refine AWP.seqk fun K15 hK15 => ?_
            refine AWP.drawF 13 Try.checked.mixed (by kernel_rfl) (by simp (disch := first|omega|(simp only[ln];omega)) [runDf.eq_def, runF1, runF2, stepF.eq_def, updo.eq_def, hupo.eq_def, opSto1.eq_def, idx_WdD (P := Try.prog) elT117 szT24, if_pos, idf_Wd', idf_numI, cells_numI, numI_fold, h2, h5, hB, hC, ho, ld_ip agT24]; rfl) ?_
            refine hK15 _ ?_
            refine AWP.ret ?_
            exact hK _ _ _ _ trivial ((Fin.mk (by simp (disch := omega) [aRes, aResL, aRes1, h2, idf_Wd', idf_numI, cells_numI, numI_fold]; rfl)).cast (by have hw := words4 (mag_dig n) hl4; rw [mag_val, hneg hzn] at hw; simp only [wdT, hf, if_true]; rw [wdZ_neg hw.2.2.2.2 hw.2.2.2.1 hw.2.2.1 hw.2.1 hw.1]; rw [hg 0 (by omega), hg 1 (by omega), hg 2 (by omega), hg 3 (by omega)]; simp [wdI, gt_app0]))
        · try simp only [decide_eq_true_eq, decide_eq_false_iff_not] at h22
          have hzn : ¬ z < 0 := by simpa using h22
          refine AWP.skip ?_
          refine hK8 _ ?_
          refine AWP.seqk fun K16 hK16 => ?_
          refine AWP.drawF 13 Try.checked.mixed (by kernel_rfl) (by simp (disch := first|omega|(simp only[ln];omega)) [runDf.eq_def, runF1, runF2, stepF.eq_def, updo.eq_def, hupo.eq_def, opSto1.eq_def, idx_WdD (P := Try.prog) elT117 szT24, if_pos, idf_Wd', idf_numI, cells_numI, numI_fold, h2, h5, hB, hC, ld_ip agT24]; rfl) ?_
          refine hK16 _ ?_
          refine AWP.ret ?_
          exact hK _ _ _ _ trivial ((Fin.mk (by simp (disch := omega) [aRes, aResL, aRes1, h2, idf_Wd', idf_numI, cells_numI, numI_fold]; rfl)).cast (by have hw := words4 (mag_dig n) hl4; rw [mag_val, hpos hzn] at hw; simp only [wdT, hf, if_true]; rw [wdZ_pos hw.2.2.2.2 hw.2.2.2.1 hw.2.2.1 hw.2.1 (by omega) hw.1]; simp [wdI, gt_app0]))
      refine AWP.region ?_
      refine AOPS.runk 2 (by simp (disch := first|omega|(simp only[ln];omega)) [List.take_succ_cons, List.take_zero, idf_Wd', idf_numI, cells_numI, numI_fold, h1, h4]; rfl) ?_
      simp only [List.drop_succ_cons, List.drop_zero]
      refine AOPS.acall (clone_ac (mag n) (by omega) _ _) rfl rfl rfl hb173 (by simp) (by simp) (by simp) ?_
      rintro r H' nx' (⟨he, rfl, rfl, rfl⟩ | ⟨rfl, rfl, rfl⟩)
      · simp only [puts_some]
        refine AOPS.opapp (d := none) (z := 1) (es := wd .u64 [0, 0, 0, 0]) (by simp (disch := first|omega|(simp only[ln];omega)) [opApp.eq_def, aSrc_isl, aSrc_osl, aSrc_nsl, aSrc_int, wd_app, wd_app2, if_pos, wd_append, wd_take, wd_drop, List.nil_append, idf_Wd', idf_numI, cells_numI, numI_fold, h1, h4]; try first | rfl | exact ⟨rfl, rfl, rfl⟩ | exact fun h => absurd (congrArg List.length h) (by rw [wd_len]; decide)) (by simp) (by simp) ?_
        simp only [puts_some, hdrop]
        refine AOPS.all (by simp (disch := first|omega|(simp only[ln];omega)) [List.take_succ_cons, List.take_zero, idf_Wd', idf_numI, cells_numI, numI_fold, h1, h4]; rfl) ?_
        refine J7 _ ⟨_, by simp [h1], by simp [h2], by simp [he, wd_len]; rfl, by simp (disch := omega), by simp (disch := omega), by simp [he], by omega, rfl⟩
      · simp only [puts_some]
        refine AOPS.opapp (d := some (m + 1)) (z := 1) (es := wd .u64 (mag n ++ [0, 0, 0, 0])) (by simp (disch := first|omega|(simp only[ln];omega)) [opApp.eq_def, aSrc_isl, aSrc_osl, aSrc_nsl, aSrc_int, wd_app, wd_app2, if_pos, wd_append, wd_take, wd_drop, List.nil_append, idf_Wd', idf_numI, cells_numI, numI_fold, h1, h4]; try first | rfl | exact ⟨rfl, rfl, rfl⟩ | exact fun h => absurd (congrArg List.length h) (by rw [wd_len]; decide)) (by simp) (by simp) ?_
        simp only [puts_some, hdrop]
        refine AOPS.all (by simp (disch := first|omega|(simp only[ln];omega)) [List.take_succ_cons, List.take_zero, idf_Wd', idf_numI, cells_numI, numI_fold, h1, h4]; rfl) ?_
        refine J7 _ ⟨_, by simp [h1], by simp [h2], by simp [wd_len]; rfl, by simp (disch := omega), by simp (disch := omega), by simp, by omega, rfl⟩
  refine AWP.seqk fun K17 hK17 => ?_
  refine AWP.region (AOPS.all (by simp (disch := first|omega|(simp only[ln];omega)) [idf_Wd', idf_numI, cells_numI, numI_fold]; rfl) ?_)
  refine hK17 _ ?_
  refine cond_ok _ (by simp (disch := first|omega|(simp only[ln];omega)); rfl) (fun h9 => ?_) (fun h9 => ?_)
  · try simp only [decide_eq_true_eq, decide_eq_false_iff_not] at h9
    refine AWP.draw 3 Try.checked.mixed (by kernel_rfl) (by simp) ?_
    simp only [List.take_succ_cons, List.take_zero, List.drop_succ_cons, List.drop_zero]
    refine DP.runFk 1 (by simp (disch := first|omega|(simp only[ln];omega)) [runDf.eq_def, runF1, runF2, stepF.eq_def, updo.eq_def, hupo.eq_def, opSto1.eq_def, List.take_succ_cons, List.take_zero, idf_Wd', idf_numI, cells_numI, numI_fold]; rfl) fun fs18 hfs18 => ?_
    replace hfs18 : fs18.length = 1 := hfs18.trans rfl
    simp only [List.drop_succ_cons, List.drop_zero]
    refine DP.fcall (whole_fc 1 (by omega) (by omega)) rfl rfl rfl hb89 (by simp (disch := first|omega|(simp only[ln];omega)) [idf_Wd', idf_numI, cells_numI, numI_fold]) (by simp (disch := first|omega|(simp only[ln];omega))) (by simp) ?_
    simp only [updo]
    refine DP.fcall (plus_fc (a := z) (b := 1) hz (Bg.i64 (by omega) (by omega)) hk (by omega)) rfl rfl rfl hb101 (by simp (disch := first|omega|(simp only[ln];omega)) [idf_Wd', idf_numI, cells_numI, numI_fold]) (by simp (disch := first|omega|(simp only[ln];omega))) (by simp) ?_
    simp only [updo]
    refine DQ.runF (m := 3) (by simp only [List.length_append, List.length_cons, List.length_nil, hfs18]; omega) _ _ _ (by kernel_rfl) rfl (by simp (disch := first|omega|(simp only[ln];omega)) [runDf.eq_def, runF1, runF2, stepF.eq_def, updo.eq_def, hupo.eq_def, opSto1.eq_def, idf_Wd', idf_numI, cells_numI, numI_fold]; rfl) ?_
    refine J3 _ ?_
    exact ⟨by simp, by simp, by simp, by simp [h9], by simp, rfl⟩
  · try simp only [decide_eq_true_eq, decide_eq_false_iff_not] at h9
    refine AWP.skip ?_
    refine J3 _ ?_
    exact ⟨by simp, by simp, by simp, by simp [h9], by simp, rfl⟩

theorem wideOf_fc (n : Int) (h1 : -9223372036854775808 ≤ n) (h2 : n ≤ 9223372036854775807) : FC Try.prog 20 [.int .i64 n] (wdZ n) := by
  have hf : fits n = true := by unfold fits; simp; omega
  have ht : wdT n = wdZ n := by simp [wdT, hf]
  refine FC.body Try.func20 rfl (by simp [idfL, idf, idfLL_iff, idf_Wd', idf_numI, cells_numI, numI_fold, idf_wdZ, cells_wdZ, wdC_len, wdC_all, wdC_agg, wdC_one, wdC_take]) (by simp [idfL, idf, idf_wdZ]) 12 rfl fun nx K hK => ?_
  refine AWP.seqk fun K1 hK1 => ?_
  refine AWP.region (AOPS.all (by simp (disch := first|omega|(simp only[ln];omega)) [idf_Wd', idf_numI, cells_numI, numI_fold, idf_wdZ, cells_wdZ, wdC_len, wdC_all, wdC_agg, wdC_one, wdC_take]; rfl) ?_)
  refine hK1 _ ?_
  refine AWP.seqk fun K2 hK2 => ?_
  refine AWP.region ?_
  refine AOPS.runk 1 (by simp (disch := first|omega|(simp only[ln];omega)) [List.take_succ_cons, List.take_zero, idf_Wd', idf_numI, cells_numI, numI_fold, idf_wdZ, cells_wdZ, wdC_len, wdC_all, wdC_agg, wdC_one, wdC_take, ht, hf]; rfl) ?_
  simp only [List.drop_succ_cons, List.drop_zero]
  refine AOPS.fcall (whole_fc n h1 h2) rfl rfl rfl hb89 (by simp (disch := first|omega|(simp only[ln];omega)) [idf_Wd', ht, hf, idf_numI, cells_numI, numI_fold, idf_wdZ, cells_wdZ, wdC_len, wdC_all, wdC_agg, wdC_one, wdC_take]) (by simp (disch := first|omega|(simp only[ln];omega)) [ht, hf]) (by simp) ?_
  simp only [puts_some, updo]
  refine AOPS.fcall (wide_fc (z := n) (Bg.i64 h1 h2) (by omega)) rfl rfl rfl hb90 (by simp (disch := first|omega|(simp only[ln];omega)) [idf_Wd', ht, hf, idf_numI, cells_numI, numI_fold, idf_wdZ, cells_wdZ, wdC_len, wdC_all, wdC_agg, wdC_one, wdC_take]) (by simp (disch := first|omega|(simp only[ln];omega)) [ht, hf]) (by simp) ?_
  simp only [puts_some, updo]
  refine AOPS.all (by simp (disch := first|omega|(simp only[ln];omega)) [idf_Wd', idf_numI, cells_numI, numI_fold, idf_wdZ, cells_wdZ, wdC_len, wdC_all, wdC_agg, wdC_one, wdC_take, ht, hf]; rfl) ?_
  refine hK2 _ ?_
  refine AWP.seqk fun K3 hK3 => ?_
  refine AWP.region (AOPS.all (by simp (disch := first|omega|(simp only[ln];omega)) [idf_Wd', idf_numI, cells_numI, numI_fold, idf_wdZ, cells_wdZ, wdC_len, wdC_all, wdC_agg, wdC_one, wdC_take]; rfl) ?_)
  refine hK3 _ ?_
  refine AWP.ret ?_
  exact hK _ _ _ _ trivial (Fin.mk (r := wdZ n) (by simp [aRes, aResL, aRes1, idf_Wd', idf_numI, cells_numI, numI_fold, idf_wdZ, cells_wdZ, wdC_len, wdC_all, wdC_agg, wdC_one, wdC_take]))

end Go.Proofs.Ytmaebeknmiomnaa

/- Walks: the reference's numbers. -/
namespace Go.Proofs.Ytmaebeknmiomnaa
open Go Go.RowKit
set_option linter.unusedSimpArgs false
set_option linter.unusedVariables false
set_option maxRecDepth 100000
attribute [local simp] List.getElem?_cons_zero List.getElem?_cons_succ List.getElem?_toArray runOps stepOp.eq_def agd.eq_def dstOk.eq_def opVal.eq_def opNew.eq_def opSto.eq_def ev.eq_def cv.eq_def puts_some puts_none upd_ap lst.eq_def aBin.eq_def aUn.eq_def aBi_str aBi_isl aBi_osl aBi_nsl aBi_max aBi_min aBi_max3 aConv.eq_def aLd.eq_def aLoad.eq_def aField.eq_def aFld.eq_def aIdx_isl aIdx_osl aSlc_isl aSlc_osl aSlc_str aSlc_nsl bnd.eq_def evs_nil evs_cons aBuild.eq_def aFill splice.eq_def cells_agg cells_int cells_bool cells_str cells_nil cells_nsl cells_isl cells_osl cells_ptr cells_ip cells_fn cells_Wd one_int one_bool one_str one_nil one_nsl one_isl one_osl one_ptr one_ip one_fn one_Wd aSets hupd_eq hupd_ne wrap_i64s wrap_u64s wrap_u32s wrap_u8s wd_getD wd_set wd_len wd_replicate wd_one wd_fold fz_osl hupd_same aSix.eq_def aEqS.eq_def aEqB_bool aEqB_nsl aEqB_nil
attribute [local simp] szT3 byT3 agT3 unT3 zoT3 szT4 byT4 agT4 unT4 zoT4 szT111 byT111 agT111 elT111 unT111 zoT111 szT113 byT113 agT113 flT113 fdT113_0 fdT113_1 zoT113 szT225 byT225 agT225 unT225 zoT225

theorem l1Trim_fc (b : Bool) (l : List Int) (hl : l.length ≤ 1099511627776) (hd : Dig 4294967296 l) : FC Try.prog 195 [.bool b, Wd .u32 l] (numS (sg b (val 4294967296 l))) := by
  refine FC.body Try.func195 rfl (by simp [idfL, idf, idfLL_iff, idf_Wd', idf_numS, cells_numS, numS_fold]) (by simp [idfL, idf, idfLL_iff, idf_Wd', idf_numS, cells_numS, numS_fold]) 28 rfl fun nx K hK => ?_
  refine AWP.seqk fun K1 hK1 => ?_
  refine AWP.region (AOPS.all (by simp (disch := first|omega|(simp only[ln];omega)) [idf_Wd', idf_numS, cells_numS, numS_fold]; rfl) ?_)
  refine hK1 _ ?_
  refine AWP.seqk fun K2 hK2 => ?_
  refine AWP.region (AOPS.all (by simp (disch := first|omega|(simp only[ln];omega)) [len_Wd (P := Try.prog) #[111] rfl elT111, idf_Wd', idf_numS, cells_numS, numS_fold]; rfl) ?_)
  refine hK2 _ ?_
  refine AWP.seqk fun K3 hK3 => ?_
  refine AWP.block ?_
  refine AWP.loop (fun n s => n ≤ l.length ∧ trimW (l.take n) = trimW l ∧ s.env 0 = .bool b ∧ s.env 1 = Wd .u32 l ∧ s.env 4 = .ptr nx 0 0 ∧ s.env 5 = .int .i64 (n : Int) ∧ s.heap = hupd (fun _ => none) nx (some (2, [[.bool false, .nsl]])) ∧ s.nt = 28) (l.length) (⟨Nat.le_refl _, by rw [List.take_length], by simp, by simp, by simp, by simp, by simp, rfl⟩) ?_
  rintro n ⟨e, H, m, nt⟩ ⟨hn, ht, h0, h1, h4, h5, rfl, rfl⟩
  simp only [] at h0 h1 h4 h5
  refine AWP.seqk fun K4 hK4 => ?_
  refine AWP.seqk fun K5 hK5 => ?_
  cases n with
  | zero => ?_
  | succ p => ?_
  · refine AWP.region (AOPS.all (by simp (disch := first|omega|(simp only[ln];omega)) [idx_WdD (P := Try.prog) elT111 szT225, if_pos, idf_Wd', idf_numS, cells_numS, numS_fold, h1, h5]; rfl) ?_)
    refine hK5 _ ?_
    refine cond_ok _ (by simp (disch := first|omega|(simp only[ln];omega)); rfl) (fun h17 => ?_) (fun h17 => ?_)
    · simp at h17
    · try simp only [decide_eq_true_eq, decide_eq_false_iff_not] at h17
      refine AWP.exit ?_
      refine hK3 _ ?_
      refine AWP.seqk fun K6 hK6 => ?_
      refine AWP.seqk fun K7 hK7 => ?_
      refine AWP.region (AOPS.all (by simp (disch := first|omega|(simp only[ln];omega)) [idf_Wd', idf_numS, cells_numS, numS_fold, h5]; rfl) ?_)
      refine hK7 _ ?_
      refine cond_ok _ (by simp (disch := first|omega|(simp only[ln];omega)); rfl) (fun h21 => ?_) (fun h21 => ?_)
      · try simp only [decide_eq_true_eq, decide_eq_false_iff_not] at h21
        refine AWP.seqk fun K8 hK8 => ?_
        refine AWP.region (AOPS.all (by simp (disch := first|omega|(simp only[ln];omega)) [idf_Wd', idf_numS, cells_numS, numS_fold, h4]; rfl) ?_)
        refine hK8 _ ?_
        refine AWP.ret ?_
        exact hK _ _ _ _ trivial ((Fin.mk (r := .agg [.bool false, .nsl]) (by simp [aRes, aResL, aRes1, h4, idf_Wd', idf_numS, cells_numS, numS_fold])).weak (by
          have e : val 4294967296 l = 0 := by rw [← trimW_val, ← ht]; rfl
          rw [e, sg_zero]; exact fun _ _ _ _ => nS0_weak))
      · simp at h21
  · replace h5 : e 5 = .int .i64 ((p : Int) + 1) := by simpa using h5
    refine AWP.region (AOPS.all (by simp (disch := first|omega|(simp only[ln];omega)) [idx_WdD (P := Try.prog) elT111 szT225, if_pos, idf_Wd', idf_numS, cells_numS, numS_fold, h1, h5, ld_ip agT225]; rfl) ?_)
    refine hK5 _ ?_
    refine cond_ok _ (by simp (disch := first|omega|(simp only[ln];omega)); rfl) (fun h17 => ?_) (fun h17 => ?_)
    · try simp only [decide_eq_true_eq, decide_eq_false_iff_not] at h17
      have hx : gt l p = 0 := by simpa using h17
      refine AWP.skip ?_
      refine hK4 _ ?_
      refine AWP.block ?_
      refine AWP.region (AOPS.all (by simp (disch := first|omega|(simp only[ln];omega)) [idf_Wd', idf_numS, cells_numS, numS_fold, h5]; rfl) ?_)
      exact ⟨p, by omega, by omega, by rw [← ht, take_succ_gt (by omega), hx, trimW_concat_zero], by simp [h0], by simp [h1], by simp [h4], by simp (disch := omega), rfl, rfl⟩
    · try simp only [decide_eq_true_eq, decide_eq_false_iff_not] at h17
      have hx : gt l p ≠ 0 := by simpa using h17
      refine AWP.exit ?_
      refine hK3 _ ?_
      refine AWP.seqk fun K9 hK9 => ?_
      refine AWP.seqk fun K10 hK10 => ?_
      refine AWP.region (AOPS.all (by simp (disch := first|omega|(simp only[ln];omega)) [idf_Wd', idf_numS, cells_numS, numS_fold, h5]; rfl) ?_)
      refine hK10 _ ?_
      refine cond_ok _ (by simp (disch := first|omega|(simp only[ln];omega)); rfl) (fun h21 => ?_) (fun h21 => ?_)
      · simp at h21; omega
      · try simp only [decide_eq_true_eq, decide_eq_false_iff_not] at h21
        refine AWP.skip ?_
        refine hK9 _ ?_
        refine AWP.seqk fun K11 hK11 => ?_
        refine AWP.region (AOPS.all (by simp (disch := first|omega|(simp only[ln];omega)) [if_pos, idf_Wd', idf_numS, cells_numS, numS_fold, h0, h1, h4, h5, slc_Wd (P := Try.prog) (k := .u32) (l := l) (lo := none) (hi := some (.int .i64 ((p : Int) + 1))) (a := 0) (b := p + 1) elT111 szT225 rfl (by simp [bnd]; omega) (Nat.zero_le _) (by omega)]; rfl) ?_)
        refine hK11 _ ?_
        refine AWP.ret ?_
        exact hK _ _ _ _ trivial ((Fin.mk (r := .agg [.bool b, Wd .u32 (l.take (p + 1))]) (by simp [aRes, aResL, aRes1, h4, idf_Wd', idf_numS, cells_numS, numS_fold])).cast (by
          have e : trimW l = l.take (p + 1) := by rw [← ht, take_succ_gt (by omega), trimW_concat_pos _ _ hx]
          rw [← e]; exact numS_mk hd (by rw [e, take_succ_gt (by omega)]; simp)))

theorem l1CmpAbs_fc (a b : List Int) (ha : a.length ≤ 1099511627776) (hb : b.length ≤ 1099511627776) : FC Try.prog 197 [Wd .u32 a, Wd .u32 b] (.int .i64 (cmpS a b)) := by
  refine FC.body Try.func197 rfl (by simp [idfL, idf, idfLL_iff, idf_Wd']) (by simp [idfL, idf, idfLL_iff, idf_Wd']) 41 rfl fun nx K hK => ?_
  refine AWP.seqk fun K1 hK1 => ?_
  refine AWP.region (AOPS.all (by simp (disch := first|omega|(simp only[ln];omega)) [idf_Wd']; rfl) ?_)
  refine hK1 _ ?_
  refine AWP.seqk fun K2 hK2 => ?_
  refine AWP.seqk fun K3 hK3 => ?_
  refine AWP.region (AOPS.all (by simp (disch := first|omega|(simp only[ln];omega)) [len_Wd (P := Try.prog) #[111] rfl elT111, idf_Wd']; rfl) ?_)
  refine hK3 _ ?_
  refine cond_ok _ (by simp (disch := first|omega|(simp only[ln];omega)); rfl) (fun h10 => ?_) (fun h10 => ?_)
  · try simp only [decide_eq_true_eq, decide_eq_false_iff_not] at h10
    have hne : a.length ≠ b.length := by simp at h10; omega
    refine AWP.seqk fun K4 hK4 => ?_
    refine AWP.seqk fun K5 hK5 => ?_
    refine AWP.region (AOPS.all (by simp (disch := first|omega|(simp only[ln];omega)) [len_Wd (P := Try.prog) #[111] rfl elT111, idf_Wd']; rfl) ?_)
    refine hK5 _ ?_
    refine cond_ok _ (by simp (disch := first|omega|(simp only[ln];omega)); rfl) (fun h15 => ?_) (fun h15 => ?_)
    · try simp only [decide_eq_true_eq, decide_eq_false_iff_not] at h15
      refine AWP.seqk fun K6 hK6 => ?_
      refine AWP.region (AOPS.all (by simp (disch := first|omega|(simp only[ln];omega)) [idf_Wd']; rfl) ?_)
      refine hK6 _ ?_
      refine AWP.ret ?_
      exact hK _ _ _ _ trivial (Fin.mk (by simp (disch := omega) [aRes, aResL, aRes1, cmpS, hne]; omega))
    · try simp only [decide_eq_true_eq, decide_eq_false_iff_not] at h15
      refine AWP.skip ?_
      refine hK4 _ ?_
      refine AWP.seqk fun K7 hK7 => ?_
      refine AWP.region (AOPS.all (by simp (disch := first|omega|(simp only[ln];omega)) [idf_Wd']; rfl) ?_)
      refine hK7 _ ?_
      refine AWP.ret ?_
      exact hK _ _ _ _ trivial (Fin.mk (by simp (disch := omega) [aRes, aResL, aRes1, cmpS, hne]; omega))
  · try simp only [decide_eq_true_eq, decide_eq_false_iff_not] at h10
    have hne : a.length = b.length := by simp at h10; omega
    refine AWP.skip ?_
    refine hK2 _ ?_
    refine AWP.seqk fun K8 hK8 => ?_
    refine AWP.seqk fun K9 hK9 => ?_
    refine AWP.region (AOPS.all (by simp (disch := first|omega|(simp only[ln];omega)) [len_Wd (P := Try.prog) #[111] rfl elT111, idf_Wd']; rfl) ?_)
    refine hK9 _ ?_
    refine AWP.block ?_
    refine AWP.loop (fun n s => n ≤ a.length ∧ cmpAt a b n = cmpAt a b a.length ∧ s.env 0 = Wd .u32 a ∧ s.env 1 = Wd .u32 b ∧ s.env 5 = .int .i64 ((n : Int) - 1) ∧ s.heap = (fun _ => none) ∧ s.nt = 41) (a.length) (⟨Nat.le_refl _, rfl, by simp, by simp, by simp (disch := omega), rfl, rfl⟩) ?_
    rintro n ⟨e, H, nx, nt⟩ ⟨hlen, ht, h0, h1, h5, rfl, rfl⟩
    simp only [] at h0 h1 h5
    refine AWP.seqk fun K10 hK10 => ?_
    refine AWP.seqk fun K11 hK11 => ?_
    refine AWP.region (AOPS.all (by simp (disch := first|omega|(simp only[ln];omega)) [idf_Wd', h5]; rfl) ?_)
    refine hK11 _ ?_
    refine cond_ok _ (by simp (disch := first|omega|(simp only[ln];omega)); rfl) (fun h20 => ?_) (fun h20 => ?_)
    · try simp only [decide_eq_true_eq, decide_eq_false_iff_not] at h20
      obtain ⟨m, rfl⟩ : ∃ m, n = m + 1 := ⟨n - 1, by omega⟩
      replace h5 : e 5 = .int .i64 (m : Int) := by simpa using h5
      refine AWP.skip ?_
      refine hK10 _ ?_
      refine AWP.seqk fun K12 hK12 => ?_
      refine AWP.block ?_
      refine AWP.seqk fun K13 hK13 => ?_
      refine AWP.seqk fun K14 hK14 => ?_
      refine AWP.drawF 9 Try.checked.mixed (by kernel_rfl) (by simp (disch := first|omega|(simp only[ln];omega)) [runDf.eq_def, runF1, runF2, stepF.eq_def, updo.eq_def, hupo.eq_def, opSto1.eq_def, idx_WdD (P := Try.prog) elT111 szT225, if_pos, idf_Wd', h0, h1, h5, ld_ip agT225]; rfl) ?_
      refine hK14 _ ?_
      refine cond_ok _ (by simp (disch := first|omega|(simp only[ln];omega)); rfl) (fun h31 => ?_) (fun h31 => ?_)
      · try simp only [decide_eq_true_eq, decide_eq_false_iff_not] at h31
        refine AWP.seqk fun K15 hK15 => ?_
        refine AWP.region (AOPS.all (by simp (disch := first|omega|(simp only[ln];omega)) [idf_Wd']; rfl) ?_)
        refine hK15 _ ?_
        refine AWP.ret ?_
        exact hK _ _ _ _ trivial (Fin.mk (by simp [aRes, aResL, aRes1, cmpS, hne]; rw [← hne, ← ht, cmpAt, if_neg (by omega), if_pos h31]))
      · try simp only [decide_eq_true_eq, decide_eq_false_iff_not] at h31
        refine AWP.skip ?_
        refine hK13 _ ?_
        refine AWP.seqk fun K16 hK16 => ?_
        refine AWP.drawF 9 Try.checked.mixed (by kernel_rfl) (by simp (disch := first|omega|(simp only[ln];omega)) [runDf.eq_def, runF1, runF2, stepF.eq_def, updo.eq_def, hupo.eq_def, opSto1.eq_def, idx_WdD (P := Try.prog) elT111 szT225, if_pos, idf_Wd', h0, h1, h5, ld_ip agT225]; rfl) ?_
        refine hK16 _ ?_
        refine cond_ok _ (by simp (disch := first|omega|(simp only[ln];omega)); rfl) (fun h40 => ?_) (fun h40 => ?_)
        · try simp only [decide_eq_true_eq, decide_eq_false_iff_not] at h40
          refine AWP.seqk fun K17 hK17 => ?_
          refine AWP.region (AOPS.all (by simp (disch := first|omega|(simp only[ln];omega)) [idf_Wd']; rfl) ?_)
          refine hK17 _ ?_
          refine AWP.ret ?_
          exact hK _ _ _ _ trivial (Fin.mk (by simp [aRes, aResL, aRes1, cmpS, hne]; rw [← hne, ← ht, cmpAt, if_neg (by omega), if_neg (by omega)]))
        · try simp only [decide_eq_true_eq, decide_eq_false_iff_not] at h40
          have hx : gt a m = gt b m := by omega
          refine AWP.skip ?_
          refine hK12 _ ?_
          refine AWP.region (AOPS.all (by simp (disch := first|omega|(simp only[ln];omega)) [idf_Wd', h5]; rfl) ?_)
          exact ⟨m, by omega, by omega, by rw [← ht, cmpAt, if_pos hx], by simp [h0], by simp [h1], by simp (disch := omega), rfl, rfl⟩
    · try simp only [decide_eq_true_eq, decide_eq_false_iff_not] at h20
      obtain rfl : n = 0 := by omega
      refine AWP.exit ?_
      refine hK8 _ ?_
      refine AWP.seqk fun K18 hK18 => ?_
      refine AWP.region (AOPS.all (by simp (disch := first|omega|(simp only[ln];omega)) [idf_Wd']; rfl) ?_)
      refine hK18 _ ?_
      refine AWP.ret ?_
      exact hK _ _ _ _ trivial (Fin.mk (by simp [aRes, aResL, aRes1, cmpS, hne]; rw [← hne, ← ht, cmpAt]))

end Go.Proofs.Ytmaebeknmiomnaa

/- Walks: the reference's sums. -/
namespace Go.Proofs.Ytmaebeknmiomnaa
open Go Go.RowKit
set_option linter.unusedSimpArgs false
set_option linter.unusedVariables false
set_option maxRecDepth 100000
attribute [local simp] List.getElem?_cons_zero List.getElem?_cons_succ List.getElem?_toArray runOps stepOp.eq_def agd.eq_def dstOk.eq_def opVal.eq_def opNew.eq_def opSto.eq_def ev.eq_def cv.eq_def puts_some puts_none upd_ap lst.eq_def aBin.eq_def aUn.eq_def aBi_str aBi_isl aBi_osl aBi_nsl aBi_max aBi_min aBi_max3 aConv.eq_def aLd.eq_def aLoad.eq_def aField.eq_def aFld.eq_def aIdx_isl aIdx_osl aSlc_isl aSlc_osl aSlc_str aSlc_nsl bnd.eq_def evs_nil evs_cons aBuild.eq_def aFill splice.eq_def cells_agg cells_int cells_bool cells_str cells_nil cells_nsl cells_isl cells_osl cells_ptr cells_ip cells_fn cells_Wd one_int one_bool one_str one_nil one_nsl one_isl one_osl one_ptr one_ip one_fn one_Wd aSets hupd_eq hupd_ne wrap_i64s wrap_u64s wrap_u32s wrap_u8s wd_getD wd_set wd_len wd_replicate wd_one wd_fold fz_osl hupd_same aSix.eq_def aEqS.eq_def aEqB_bool aEqB_nsl aEqB_nil
attribute [local simp] szT3 byT3 agT3 unT3 zoT3 szT24 byT24 agT24 unT24 zoT24 szT111 byT111 agT111 elT111 unT111 zoT111 szT225 byT225 agT225 unT225 zoT225

set_option maxHeartbeats 1000000 in
theorem l1AddAbs_fc (a b : List Int) (ha : a.length ≤ 549755813888) (hb : b.length ≤ 549755813888) (da : Dig 4294967296 a) (db : Dig 4294967296 b) : FC Try.prog 196 [Wd .u32 a, Wd .u32 b] (Wd .u32 (addS a b)) := by
  refine FC.body Try.func196 rfl (by simp [idfL, idf, idfLL_iff, idf_Wd']) (by simp [idfL, idf, idfLL_iff, idf_Wd']) 58 rfl fun nx K hK => ?_
  refine AWP.seqk fun K1 hK1 => ?_
  refine AWP.region (AOPS.all (by simp (disch := first|omega|(simp only[ln];omega)) [idf_Wd']; rfl) ?_)
  refine hK1 _ ?_
  refine AWP.seqk fun K2 hK2 => ?_
  have J2 : ∀ s : St, (∃ a' b', s.env 0 = Wd .u32 a' ∧ s.env 1 = Wd .u32 b' ∧ a'.length ≤ 549755813888 ∧ b'.length ≤ a'.length ∧ Dig 4294967296 a' ∧ Dig 4294967296 b' ∧ addS a b = addO a' b' ∧ s.heap = (fun _ => none) ∧ s.nt = 58) → K2 s := by
    rintro ⟨e, H, nx, nt⟩ ⟨a', b', h0, h1, hlen, hle, da', db', hv, rfl, rfl⟩
    simp only [] at h0 h1
    refine hK2 _ ?_
    refine AWP.seqk fun K3 hK3 => ?_
    refine AWP.region ?_
    refine AOPS.runk 3 (by simp (disch := first|omega|(simp only[ln];omega)) [List.take_succ_cons, List.take_zero, if_pos, len_Wd (P := Try.prog) #[111] rfl elT111, idf_Wd', h0, h1]; rfl) ?_
    simp only [List.drop_succ_cons, List.drop_zero]
    refine AOPS.opnew (.osl nx 0 0) 1 [] (by simp [opNew, elT111, szT225, byT225, zoT225, ev, cv, h0, h1]; omega) (by simp) (by simp) ?_
    simp only [puts_some]
    refine AOPS.all (by simp (disch := first|omega|(simp only[ln];omega)) [List.take_succ_cons, List.take_zero, if_pos, len_Wd (P := Try.prog) #[111] rfl elT111, idf_Wd', h0, h1]; rfl) ?_
    refine hK3 _ ?_
    refine AWP.seqk fun K4 hK4 => ?_
    refine AWP.region (AOPS.all (by simp (disch := first|omega|(simp only[ln];omega)) [idf_Wd']; rfl) ?_)
    refine hK4 _ ?_
    refine AWP.seqk fun K5 hK5 => ?_
    refine AWP.seqk fun K6 hK6 => ?_
    refine AWP.region (AOPS.all (by simp (disch := first|omega|(simp only[ln];omega)) [idf_Wd']; rfl) ?_)
    refine hK6 _ ?_
    refine AWP.block ?_
    refine AWP.loop (fun n s => ∃ i id, n = a'.length - i ∧ i ≤ a'.length ∧ s.env 0 = Wd .u32 a' ∧ s.env 1 = Wd .u32 b' ∧ s.env 5 = .osl id 0 i ∧ s.env 6 = .int .u64 (addR a' b' i).2 ∧ s.env 7 = .int .i64 (i : Int) ∧ s.heap id = some (1, wd .u32 (addR a' b' i).1) ∧ id < s.nx ∧ s.nt = 58) (a'.length) (⟨0, nx, by omega, by omega, by simp [h0], by simp [h1], by simp, by simp [addR], by simp, by simp [addR, wd], by simp, rfl⟩) ?_
    rintro n ⟨e, H, m, nt⟩ ⟨i, id, rfl, hi, h0, h1, h5, h6, h7, hH, hid, rfl⟩
    simp only [] at h0 h1 h5 h6 h7 hH hid
    obtain ⟨r1, r2, r3, r4, r5⟩ := addR_spec da' db' i
    have ht : List.take i (addR a' b' i).1 = (addR a' b' i).1 := List.take_of_length_le (by omega)
    refine AWP.seqk fun K7 hK7 => ?_
    refine AWP.seqk fun K8 hK8 => ?_
    refine AWP.region (AOPS.all (by simp (disch := first|omega|(simp only[ln];omega)) [len_Wd (P := Try.prog) #[111] rfl elT111, idf_Wd', h0, h7]; rfl) ?_)
    refine hK8 _ ?_
    refine cond_ok _ (by simp (disch := first|omega|(simp only[ln];omega)); rfl) (fun h22 => ?_) (fun h22 => ?_)
    · try simp only [decide_eq_true_eq, decide_eq_false_iff_not] at h22
      have hi' : i < a'.length := by omega
      have ga := da'.gt (by omega) i
      have gb := db'.gt (by omega) i
      refine AWP.skip ?_
      refine hK7 _ ?_
      refine AWP.seqk fun K9 hK9 => ?_
      refine AWP.block ?_
      refine AWP.seqk fun K10 hK10 => ?_
      refine AWP.region (AOPS.all (by simp (disch := first|omega|(simp only[ln];omega)) [idx_WdD (P := Try.prog) elT111 szT225, if_pos, idf_Wd', h0, h6, h7, ld_ip agT225]; rfl) ?_)
      refine hK10 _ ?_
      refine AWP.seqk fun K11 hK11 => ?_
      have J11 : ∀ s : St, (s.env 0 = Wd .u32 a' ∧ s.env 1 = Wd .u32 b' ∧ s.env 5 = .osl id 0 i ∧ s.env 6 = .int .u64 ((addR a' b' i).2 + gt a' i + gt b' i) ∧ s.env 7 = .int .i64 (i : Int) ∧ s.heap id = some (1, wd .u32 (addR a' b' i).1) ∧ id < s.nx ∧ s.nt = 58) → K11 s := by
        clear h0 h1 h5 h6 h7 hH hid
        rintro ⟨e, H, m, nt⟩ ⟨h0, h1, h5, h6, h7, hH, hid, rfl⟩
        simp only [] at h0 h1 h5 h6 h7 hH hid
        refine hK11 _ ?_
        refine AWP.seqk fun K12 hK12 => ?_
        have J12 : ∀ s : St, (∃ id2, s.env 0 = Wd .u32 a' ∧ s.env 1 = Wd .u32 b' ∧ s.env 5 = .osl id2 0 (i + 1) ∧ s.env 6 = .int .u64 ((addR a' b' i).2 + gt a' i + gt b' i) ∧ s.env 7 = .int .i64 (i : Int) ∧ s.heap id2 = some (1, wd .u32 (addR a' b' (i + 1)).1) ∧ id2 < s.nx ∧ s.nt = 58) → K12 s := by
          clear h0 h1 h5 h6 h7 hH hid
          rintro ⟨e, H, m, nt⟩ ⟨id2, h0, h1, h5, h6, h7, hH, hid, rfl⟩
          simp only [] at h0 h1 h5 h6 h7 hH hid
          refine hK12 _ ?_
          refine AWP.region (AOPS.all (by simp (disch := first|omega|(simp only[ln];omega)) [idf_Wd', h6]; rfl) ?_)
          refine hK9 _ ?_
          refine AWP.region (AOPS.all (by simp (disch := first|omega|(simp only[ln];omega)) [idf_Wd', h7]; rfl) ?_)
          refine ⟨a'.length - (i + 1), by omega, i + 1, id2, rfl, by omega, by simp [h0], by simp [h1], by simp [h5], by simp (disch := omega) [addR, wrap_u64m, IntKind.bits, Int.fdiv_eq_ediv_of_nonneg], by simp (disch := omega) [h7], by simp [hH], by simpa using hid, rfl⟩
        refine AWP.region ?_
        refine AOPS.runk 4 (by simp (disch := first|omega|(simp only[ln];omega)) [List.take_succ_cons, List.take_zero, idf_Wd', h5, h6, hH, r1, Nat.ne_of_lt hid]; rfl) ?_
        simp only [List.drop_succ_cons, List.drop_zero]
        refine AOPS.opapp (by simp (disch := first|omega|(simp only[ln];omega)) [opApp.eq_def, aSrc_isl, aSrc_osl, aSrc_nsl, aSrc_int, wd_app, wd_app2, if_pos, wd_append, wd_take, wd_drop, List.nil_append, idf_Wd', h5, h6, hH, r1, Nat.ne_of_lt hid, src_Wd' (P := Try.prog) elT111]; first | rfl | exact ⟨rfl, rfl⟩ | exact ⟨rfl, rfl, rfl⟩) (by simp) (by simp) ?_
        simp only [puts_some, hdrop]
        refine AOPS.all (by simp (disch := first|omega|(simp only[ln];omega)) [idf_Wd', h5, h6, hH, r1, Nat.ne_of_lt hid]; rfl) ?_
        refine J12 _ ?_
        exact ⟨_, by simp [h0], by simp [h1], by simp [r1]; rfl, by simp [h6], by simp [h7], by simp [addR, wrap_u32m, ht], by simp, rfl⟩
      refine AWP.seqk fun K13 hK13 => ?_
      refine AWP.region (AOPS.all (by simp (disch := first|omega|(simp only[ln];omega)) [len_Wd (P := Try.prog) #[111] rfl elT111, idf_Wd', h1, h7]; rfl) ?_)
      refine hK13 _ ?_
      refine cond_ok _ (by simp (disch := first|omega|(simp only[ln];omega)); rfl) (fun h35 => ?_) (fun h35 => ?_)
      · try simp only [decide_eq_true_eq, decide_eq_false_iff_not] at h35
        have hib : i < b'.length := by omega
        refine AWP.region (AOPS.all (by simp (disch := first|omega|(simp only[ln];omega)) [idx_WdD (P := Try.prog) elT111 szT225, if_pos, idf_Wd', h1, h7, ld_ip agT225]; rfl) ?_)
        refine J11 _ ?_
        exact ⟨by simp [h0], by simp [h1], by simp [h5], by simp, by simp [h7], by simp [hH], by simpa using hid, rfl⟩
      · try simp only [decide_eq_true_eq, decide_eq_false_iff_not] at h35
        refine AWP.skip ?_
        refine J11 _ ?_
        exact ⟨by simp [h0], by simp [h1], by simp [h5], by simp [gt_ge (show b'.length ≤ i by omega)], by simp [h7], by simp [hH], by simpa using hid, rfl⟩
    · try simp only [decide_eq_true_eq, decide_eq_false_iff_not] at h22
      obtain rfl : i = a'.length := by omega
      refine AWP.exit ?_
      refine hK5 _ ?_
      refine AWP.seqk fun K14 hK14 => ?_
      refine AWP.seqk fun K15 hK15 => ?_
      refine AWP.region (AOPS.all (by simp (disch := first|omega|(simp only[ln];omega)) [idf_Wd', h6]; rfl) ?_)
      refine hK15 _ ?_
      refine cond_ok _ (by simp (disch := first|omega|(simp only[ln];omega)); rfl) (fun h51 => ?_) (fun h51 => ?_)
      · try simp only [decide_eq_true_eq, decide_eq_false_iff_not] at h51
        have hc : 0 < (addR a' b' a'.length).2 := by omega
        have hm2 : (addR a' b' a'.length).2 % 4294967296 = (addR a' b' a'.length).2 := Int.emod_eq_of_lt r3 (by omega)
        refine AWP.region ?_
        refine AOPS.runk 4 (by simp (disch := first|omega|(simp only[ln];omega)) [List.take_succ_cons, List.take_zero, idf_Wd', h5, h6, hH, r1, Nat.ne_of_lt hid]; rfl) ?_
        simp only [List.drop_succ_cons, List.drop_zero]
        refine AOPS.opapp (by simp (disch := first|omega|(simp only[ln];omega)) [opApp.eq_def, aSrc_isl, aSrc_osl, aSrc_nsl, aSrc_int, wd_app, wd_app2, if_pos, wd_append, wd_take, wd_drop, List.nil_append, idf_Wd', h5, h6, hH, r1, Nat.ne_of_lt hid, src_Wd' (P := Try.prog) elT111]; first | rfl | exact ⟨rfl, rfl⟩ | exact ⟨rfl, rfl, rfl⟩) (by simp) (by simp) ?_
        simp only [puts_some, hdrop]
        refine AOPS.all (by simp (disch := first|omega|(simp only[ln];omega)) [idf_Wd', h5, h6, hH, r1, Nat.ne_of_lt hid]; rfl) ?_
        refine hK14 _ ?_
        refine AWP.seqk fun K16 hK16 => ?_
        refine AWP.region (AOPS.all (by simp (disch := first|omega|(simp only[ln];omega)) [idf_Wd', h5]; rfl) ?_)
        refine hK16 _ ?_
        refine AWP.ret ?_
        exact hK _ _ _ _ trivial (((Fin.mk (r := .osl (m + 1) 0 (a'.length + 1)) (by simp (disch := omega) [aRes, aResL, aRes1, r1, idf_Wd'])).freeze (id := m + 1) (z := 1) (es := wd .u32 (addO a' b')) (by simp [addO, hc, wrap_u32m, ht, hm2])).cast (by rw [hv]; exact fz_wd (by simp [addO, hc, r1])))
      · try simp only [decide_eq_true_eq, decide_eq_false_iff_not] at h51
        have hc : ¬ 0 < (addR a' b' a'.length).2 := by omega
        refine AWP.skip ?_
        refine hK14 _ ?_
        refine AWP.seqk fun K17 hK17 => ?_
        refine AWP.region (AOPS.all (by simp (disch := first|omega|(simp only[ln];omega)) [idf_Wd', h5]; rfl) ?_)
        refine hK17 _ ?_
        refine AWP.ret ?_
        exact hK _ _ _ _ trivial (((Fin.mk (r := .osl id 0 a'.length) (by simp [aRes, aResL, aRes1, idf_Wd'])).freeze (id := id) (z := 1) (es := wd .u32 (addO a' b')) (by simp [hH, addO, hc])).cast (by rw [hv]; exact fz_wd (by simp [addO, hc, r1])))
  refine AWP.seqk fun K18 hK18 => ?_
  refine AWP.region (AOPS.all (by simp (disch := first|omega|(simp only[ln];omega)) [len_Wd (P := Try.prog) #[111] rfl elT111, idf_Wd']; rfl) ?_)
  refine hK18 _ ?_
  refine cond_ok _ (by simp (disch := first|omega|(simp only[ln];omega)); rfl) (fun h12 => ?_) (fun h12 => ?_)
  · try simp only [decide_eq_true_eq, decide_eq_false_iff_not] at h12
    refine AWP.region (AOPS.all (by simp (disch := first|omega|(simp only[ln];omega)) [idf_Wd']; rfl) ?_)
    refine J2 _ ?_
    exact ⟨b, a, by simp, by simp, hb, by omega, db, da, by rw [addS, if_pos (by omega)], rfl, rfl⟩
  · try simp only [decide_eq_true_eq, decide_eq_false_iff_not] at h12
    refine AWP.skip ?_
    refine J2 _ ?_
    exact ⟨a, b, by simp, by simp, ha, by omega, da, db, by rw [addS, if_neg (by omega)], rfl, rfl⟩

set_option maxHeartbeats 1000000 in
theorem l1SubAbs_fc (a b : List Int) (ha : a.length ≤ 549755813888) (da : Dig 4294967296 a) (db : Dig 4294967296 b) : FC Try.prog 198 [Wd .u32 a, Wd .u32 b] (Wd .u32 (subS a b)) := by
  refine FC.body Try.func198 rfl (by simp [idfL, idf, idfLL_iff, idf_Wd']) (by simp [idfL, idf, idfLL_iff, idf_Wd']) 49 rfl fun nx K hK => ?_
  refine AWP.seqk fun K1 hK1 => ?_
  refine AWP.region (AOPS.all (by simp (disch := first|omega|(simp only[ln];omega)) [idf_Wd']; rfl) ?_)
  refine hK1 _ ?_
  refine AWP.seqk fun K2 hK2 => ?_
  refine AWP.region ?_
  refine AOPS.runk 2 (by simp (disch := first|omega|(simp only[ln];omega)) [List.take_succ_cons, List.take_zero, if_pos, len_Wd (P := Try.prog) #[111] rfl elT111, idf_Wd']; rfl) ?_
  simp only [List.drop_succ_cons, List.drop_zero]
  refine AOPS.opnew (.osl nx 0 0) 1 [] (by simp [opNew, elT111, szT225, byT225, zoT225, ev, cv]; omega) (by simp) (by simp) ?_
  simp only [puts_some]
  refine AOPS.all (by simp (disch := first|omega|(simp only[ln];omega)) [List.take_succ_cons, List.take_zero, if_pos, len_Wd (P := Try.prog) #[111] rfl elT111, idf_Wd']; rfl) ?_
  refine hK2 _ ?_
  refine AWP.seqk fun K3 hK3 => ?_
  refine AWP.region (AOPS.all (by simp (disch := first|omega|(simp only[ln];omega)) [idf_Wd']; rfl) ?_)
  refine hK3 _ ?_
  refine AWP.seqk fun K4 hK4 => ?_
  refine AWP.seqk fun K5 hK5 => ?_
  refine AWP.region (AOPS.all (by simp (disch := first|omega|(simp only[ln];omega)) [idf_Wd']; rfl) ?_)
  refine hK5 _ ?_
  refine AWP.block ?_
  refine AWP.loop (fun n s => ∃ i id, n = a.length - i ∧ i ≤ a.length ∧ s.env 0 = Wd .u32 a ∧ s.env 1 = Wd .u32 b ∧ s.env 5 = .osl id 0 i ∧ s.env 6 = .int .u64 (subR a b i).2 ∧ s.env 7 = .int .i64 (i : Int) ∧ s.heap id = some (1, wd .u32 (subR a b i).1) ∧ id < s.nx ∧ s.nt = 49) (a.length) (⟨0, nx, by omega, by omega, by simp, by simp, by simp, by simp [subR], by simp, by simp [subR, wd], by simp, rfl⟩) ?_
  rintro n ⟨e, H, m, nt⟩ ⟨i, id, rfl, hi, h0, h1, h5, h6, h7, hH, hid, rfl⟩
  simp only [] at h0 h1 h5 h6 h7 hH hid
  obtain ⟨r1, r2, r3, r4, r5⟩ := subR_spec da db i
  have ht : List.take i (subR a b i).1 = (subR a b i).1 := List.take_of_length_le (by omega)
  refine AWP.seqk fun K6 hK6 => ?_
  refine AWP.seqk fun K7 hK7 => ?_
  refine AWP.region (AOPS.all (by simp (disch := first|omega|(simp only[ln];omega)) [len_Wd (P := Try.prog) #[111] rfl elT111, idf_Wd', h0, h7]; rfl) ?_)
  refine hK7 _ ?_
  refine cond_ok _ (by simp (disch := first|omega|(simp only[ln];omega)); rfl) (fun h16 => ?_) (fun h16 => ?_)
  · try simp only [decide_eq_true_eq, decide_eq_false_iff_not] at h16
    have hi' : i < a.length := by omega
    have ga := da.gt (by omega) i
    have gb := db.gt (by omega) i
    refine AWP.skip ?_
    refine hK6 _ ?_
    refine AWP.seqk fun K8 hK8 => ?_
    refine AWP.block ?_
    refine AWP.seqk fun K9 hK9 => ?_
    refine AWP.region (AOPS.all (by simp (disch := first|omega|(simp only[ln];omega)) [idx_WdD (P := Try.prog) elT111 szT225, if_pos, idf_Wd', h0, h7, ld_ip agT225]; rfl) ?_)
    refine hK9 _ ?_
    refine AWP.seqk fun K10 hK10 => ?_
    refine AWP.region (AOPS.all (by simp (disch := first|omega|(simp only[ln];omega)) [idf_Wd', h6]; rfl) ?_)
    refine hK10 _ ?_
    refine AWP.seqk fun K11 hK11 => ?_
    have J11 : ∀ s : St, (s.env 0 = Wd .u32 a ∧ s.env 1 = Wd .u32 b ∧ s.env 5 = .osl id 0 i ∧ s.env 8 = .int .u64 (gt a i) ∧ s.env 9 = .int .u64 ((subR a b i).2 + gt b i) ∧ s.env 7 = .int .i64 (i : Int) ∧ s.heap id = some (1, wd .u32 (subR a b i).1) ∧ id < s.nx ∧ s.nt = 49) → K11 s := by
      clear h0 h1 h5 h6 h7 hH hid
      rintro ⟨e, H, m, nt⟩ ⟨h0, h1, h5, h8, h9, h7, hH, hid, rfl⟩
      simp only [] at h0 h1 h5 h8 h9 h7 hH hid
      refine hK11 _ ?_
      refine AWP.seqk fun K12 hK12 => ?_
      refine AWP.region (AOPS.all (by simp (disch := first|omega|(simp only[ln];omega)) [idf_Wd']; rfl) ?_)
      refine hK12 _ ?_
      refine AWP.seqk fun K13 hK13 => ?_
      have J13 : ∀ s : St, (∃ x : Int, x = (if gt a i < (subR a b i).2 + gt b i then gt a i + 4294967296 else gt a i) ∧ s.env 0 = Wd .u32 a ∧ s.env 1 = Wd .u32 b ∧ s.env 5 = .osl id 0 i ∧ s.env 8 = .int .u64 x ∧ s.env 9 = .int .u64 ((subR a b i).2 + gt b i) ∧ s.env 6 = .int .u64 (subR a b (i + 1)).2 ∧ s.env 7 = .int .i64 (i : Int) ∧ s.heap id = some (1, wd .u32 (subR a b i).1) ∧ id < s.nx ∧ s.nt = 49) → K13 s := by
        clear h0 h1 h5 h7 h8 h9 hH hid
        rintro ⟨e, H, m, nt⟩ ⟨x, hx, h0, h1, h5, h8, h9, h6, h7, hH, hid, rfl⟩
        simp only [] at h0 h1 h5 h8 h9 h6 h7 hH hid
        have hxy : 0 ≤ x - ((subR a b i).2 + gt b i) ∧ x - ((subR a b i).2 + gt b i) < 4294967296 ∧ x - ((subR a b i).2 + gt b i) = (gt a i - ((subR a b i).2 + gt b i)) % 4294967296 := by
          rw [hx]; split <;> omega
        refine hK13 _ ?_
        refine AWP.region ?_
        refine AOPS.runk 6 (by simp (disch := first|omega|(simp only[ln];omega)) [List.take_succ_cons, List.take_zero, idf_Wd', h5, h8, h9, hH, r1, Nat.ne_of_lt hid]; rfl) ?_
        simp only [List.drop_succ_cons, List.drop_zero]
        refine AOPS.opapp (by simp (disch := first|omega|(simp only[ln];omega)) [opApp.eq_def, aSrc_isl, aSrc_osl, aSrc_nsl, aSrc_int, wd_app, wd_app2, if_pos, wd_append, wd_take, wd_drop, List.nil_append, idf_Wd', h5, h8, h9, hH, r1, Nat.ne_of_lt hid, src_Wd' (P := Try.prog) elT111]; first | rfl | exact ⟨rfl, rfl⟩ | exact ⟨rfl, rfl, rfl⟩) (by simp) (by simp) ?_
        simp only [puts_some, hdrop]
        refine AOPS.all (by simp (disch := first|omega|(simp only[ln];omega)) [idf_Wd', h5, h8, h9, hH, r1, Nat.ne_of_lt hid]; rfl) ?_
        refine hK8 _ ?_
        refine AWP.region (AOPS.all (by simp (disch := first|omega|(simp only[ln];omega)) [idf_Wd', h7]; rfl) ?_)
        refine ⟨a.length - (i + 1), by omega, i + 1, m + 1, rfl, by omega, by simp [h0], by simp [h1], by simp [r1], by simp [h6], by simp (disch := omega) [h7], by simp [subR, ht, ← hxy.2.2], by simp, rfl⟩
      refine AWP.seqk fun K14 hK14 => ?_
      refine AWP.region (AOPS.all (by simp (disch := first|omega|(simp only[ln];omega)) [idf_Wd', h8, h9]; rfl) ?_)
      refine hK14 _ ?_
      refine cond_ok _ (by simp (disch := first|omega|(simp only[ln];omega)); rfl) (fun h38 => ?_) (fun h38 => ?_)
      · try simp only [decide_eq_true_eq, decide_eq_false_iff_not] at h38
        refine AWP.seqk fun K15 hK15 => ?_
        refine AWP.region (AOPS.all (by simp (disch := first|omega|(simp only[ln];omega)) [idf_Wd', h8]; rfl) ?_)
        refine hK15 _ ?_
        refine AWP.region (AOPS.all (by simp (disch := first|omega|(simp only[ln];omega)) [idf_Wd']; rfl) ?_)
        refine J13 _ ?_
        exact ⟨_, (if_pos h38).symm, by simp [h0], by simp [h1], by simp [h5], by simp, by simp [h9], by simp [subR, h38], by simp [h7], by simp [hH], by simpa using hid, rfl⟩
      · try simp only [decide_eq_true_eq, decide_eq_false_iff_not] at h38
        refine AWP.skip ?_
        refine J13 _ ?_
        exact ⟨_, (if_neg h38).symm, by simp [h0], by simp [h1], by simp [h5], by simp [h8], by simp [h9], by simp [subR, h38], by simp [h7], by simp [hH], by simpa using hid, rfl⟩
    refine AWP.seqk fun K16 hK16 => ?_
    refine AWP.region (AOPS.all (by simp (disch := first|omega|(simp only[ln];omega)) [len_Wd (P := Try.prog) #[111] rfl elT111, idf_Wd', h1, h7]; rfl) ?_)
    refine hK16 _ ?_
    refine cond_ok _ (by simp (disch := first|omega|(simp only[ln];omega)); rfl) (fun h28 => ?_) (fun h28 => ?_)
    · try simp only [decide_eq_true_eq, decide_eq_false_iff_not] at h28
      have hib : i < b.length := by omega
      refine AWP.region (AOPS.all (by simp (disch := first|omega|(simp only[ln];omega)) [idx_WdD (P := Try.prog) elT111 szT225, if_pos, idf_Wd', h1, h7, ld_ip agT225]; rfl) ?_)
      refine J11 _ ?_
      exact ⟨by simp [h0], by simp [h1], by simp [h5], by simp, by simp, by simp [h7], by simp [hH], by simpa using hid, rfl⟩
    · try simp only [decide_eq_true_eq, decide_eq_false_iff_not] at h28
      refine AWP.skip ?_
      refine J11 _ ?_
      exact ⟨by simp [h0], by simp [h1], by simp [h5], by simp, by simp [gt_ge (show b.length ≤ i by omega)], by simp [h7], by simp [hH], by simpa using hid, rfl⟩
  · try simp only [decide_eq_true_eq, decide_eq_false_iff_not] at h16
    obtain rfl : i = a.length := by omega
    refine AWP.exit ?_
    refine hK4 _ ?_
    refine AWP.seqk fun K17 hK17 => ?_
    refine AWP.region (AOPS.all (by simp (disch := first|omega|(simp only[ln];omega)) [idf_Wd', h5]; rfl) ?_)
    refine hK17 _ ?_
    refine AWP.ret ?_
    exact hK _ _ _ _ trivial (((Fin.mk (r := .osl id 0 a.length) (by simp [aRes, aResL, aRes1, idf_Wd'])).freeze (id := id) (z := 1) (es := wd .u32 (subS a b)) (by simp [hH, subS])).cast (fz_wd (by simp [subS, r1])))

end Go.Proofs.Ytmaebeknmiomnaa

/- Walks: the reference's sums of signed numbers. -/
namespace Go.Proofs.Ytmaebeknmiomnaa
open Go Go.RowKit
set_option linter.unusedSimpArgs false
set_option linter.unusedVariables false
set_option maxRecDepth 100000
attribute [local simp] List.getElem?_cons_zero List.getElem?_cons_succ List.getElem?_toArray runOps stepOp.eq_def agd.eq_def dstOk.eq_def opVal.eq_def opNew.eq_def opSto.eq_def ev.eq_def cv.eq_def puts_some puts_none upd_ap lst.eq_def aBin.eq_def aUn.eq_def aBi_str aBi_isl aBi_osl aBi_nsl aBi_max aBi_min aBi_max3 aConv.eq_def aLd.eq_def aLoad.eq_def aField.eq_def aFld.eq_def aIdx_isl aIdx_osl aSlc_isl aSlc_osl aSlc_str aSlc_nsl bnd.eq_def evs_nil evs_cons aBuild.eq_def aFill splice.eq_def cells_agg cells_int cells_bool cells_str cells_nil cells_nsl cells_isl cells_osl cells_ptr cells_ip cells_fn cells_Wd one_int one_bool one_str one_nil one_nsl one_isl one_osl one_ptr one_ip one_fn one_Wd aSets hupd_eq hupd_ne wrap_i64s wrap_u64s wrap_u32s wrap_u8s wd_getD wd_set wd_len wd_replicate wd_one wd_fold fz_osl hupd_same aSix.eq_def aEqS.eq_def aEqB_bool aEqB_nsl aEqB_nil
attribute [local simp] szT2 byT2 agT2 unT2 zoT2 szT3 byT3 agT3 unT3 zoT3 szT4 byT4 agT4 unT4 zoT4 szT24 byT24 agT24 unT24 zoT24 szT111 byT111 agT111 elT111 unT111 zoT111 szT113 byT113 agT113 flT113 fdT113_0 fdT113_1 zoT113 szT225 byT225 agT225 unT225 zoT225

theorem addS_len {j k : Nat} {a b : Int} (ha : Bg j a) (hb : Bg k b) : (addS (dg a) (dg b)).length ≤ 2 * j + 2 * k + 1 := by
  have := (addS_spec (dg_dig a) (dg_dig b)).2.1
  have := ha.len32
  have := hb.len32
  omega
theorem dg_le {a b : Int} (h : b.natAbs ≤ a.natAbs) : (dg b).length ≤ (dg a).length := by
  rcases Nat.lt_or_ge (dg a).length (dg b).length with h1 | h1
  · have := can_len_lt (B := 4294967296) (by omega) (dg_dig a) (dg_dig b) (dg_can b) h1
    rw [dg_val, dg_val] at this; omega
  · exact h1
theorem addS_dg (a b : Int) : Dig 4294967296 (addS (dg a) (dg b)) ∧ val 4294967296 (addS (dg a) (dg b)) = (a.natAbs : Int) + b.natAbs := by
  have := addS_spec (dg_dig a) (dg_dig b)
  rw [dg_val, dg_val] at this
  exact ⟨this.1, this.2.2⟩
theorem subS_dg {a b : Int} (h : b.natAbs ≤ a.natAbs) : Dig 4294967296 (subS (dg a) (dg b)) ∧ (subS (dg a) (dg b)).length = (dg a).length ∧ val 4294967296 (subS (dg a) (dg b)) = (a.natAbs : Int) - b.natAbs := by
  have := subS_spec (dg_dig a) (dg_dig b) (dg_le h) (by rw [dg_val, dg_val]; omega)
  rw [dg_val, dg_val] at this
  exact this

theorem l1Sign_fc (z : Int) : FC Try.prog 166 [numS z] (.int .i64 (if z < 0 then -1 else if z > 0 then 1 else 0)) := by
  refine FC.body Try.func166 rfl (by simp [idfL, idf, idfLL_iff, idf_Wd', idf_numS, cells_numS, numS_fold]) (by simp [idfL, idf, idfLL_iff, idf_Wd', idf_numS, cells_numS, numS_fold]) 9 rfl fun nx K hK => ?_
  refine AWP.seqk fun K1 hK1 => ?_
  refine AWP.region (AOPS.all (by simp (disch := first|omega|(simp only[ln];omega)) [idf_Wd', idf_numS, cells_numS, numS_fold]; rfl) ?_)
  refine hK1 _ ?_
  refine AWP.seqk fun K2 hK2 => ?_
  refine AWP.seqk fun K3 hK3 => ?_
  refine AWP.region (AOPS.all (by simp (disch := first|omega|(simp only[ln];omega)) [len_Wd (P := Try.prog) #[111] rfl elT111, idf_Wd', idf_numS, cells_numS, numS_fold]; rfl) ?_)
  refine hK3 _ ?_
  refine cond_ok _ (by simp (disch := first|omega|(simp only[ln];omega)); rfl) (fun h6 => ?_) (fun h6 => ?_)
  · try simp only [decide_eq_true_eq, decide_eq_false_iff_not] at h6
    have h0 : z = 0 := by simp at h6; exact dg_nil.mp h6
    refine AWP.seqk fun K4 hK4 => ?_
    refine AWP.region (AOPS.all (by simp (disch := first|omega|(simp only[ln];omega)) [idf_Wd', idf_numS, cells_numS, numS_fold]; rfl) ?_)
    refine hK4 _ ?_
    refine AWP.ret ?_
    exact hK _ _ _ _ trivial (Fin.mk (by simp [aRes, aResL, aRes1, h0]))
  · try simp only [decide_eq_true_eq, decide_eq_false_iff_not] at h6
    have h0 : z ≠ 0 := by simp at h6; exact fun e => h6 (dg_nil.mpr e)
    refine AWP.skip ?_
    refine hK2 _ ?_
    refine AWP.seqk fun K5 hK5 => ?_
    refine AWP.seqk fun K6 hK6 => ?_
    refine AWP.region (AOPS.all (by simp (disch := first|omega|(simp only[ln];omega)) [idf_Wd', idf_numS, cells_numS, numS_fold]; rfl) ?_)
    refine hK6 _ ?_
    refine cond_ok _ (by simp (disch := first|omega|(simp only[ln];omega)); rfl) (fun h8 => ?_) (fun h8 => ?_)
    · try simp only [decide_eq_true_eq, decide_eq_false_iff_not] at h8
      refine AWP.seqk fun K7 hK7 => ?_
      refine AWP.region (AOPS.all (by simp (disch := first|omega|(simp only[ln];omega)) [idf_Wd', idf_numS, cells_numS, numS_fold]; rfl) ?_)
      refine hK7 _ ?_
      refine AWP.ret ?_
      exact hK _ _ _ _ trivial (Fin.mk (by simp [aRes, aResL, aRes1, h8]))
    · try simp only [decide_eq_true_eq, decide_eq_false_iff_not] at h8
      have h1 : z > 0 := by omega
      refine AWP.skip ?_
      refine hK5 _ ?_
      refine AWP.seqk fun K8 hK8 => ?_
      refine AWP.region (AOPS.all (by simp (disch := first|omega|(simp only[ln];omega)) [idf_Wd', idf_numS, cells_numS, numS_fold]; rfl) ?_)
      refine hK8 _ ?_
      refine AWP.ret ?_
      exact hK _ _ _ _ trivial (Fin.mk (by simp [aRes, aResL, aRes1, h8, h1]))

theorem l1Neg_fc (z : Int) : FC Try.prog 193 [numS z] (numS (-z)) := by
  refine FC.body Try.func193 rfl (by simp [idfL, idf, idfLL_iff, idf_Wd', idf_numS, cells_numS, numS_fold]) (by simp [idfL, idf, idfLL_iff, idf_Wd', idf_numS, cells_numS, numS_fold]) 14 rfl fun nx K hK => ?_
  refine AWP.seqk fun K1 hK1 => ?_
  refine AWP.region (AOPS.all (by simp (disch := first|omega|(simp only[ln];omega)) [idf_Wd', idf_numS, cells_numS, numS_fold]; rfl) ?_)
  refine hK1 _ ?_
  refine AWP.seqk fun K2 hK2 => ?_
  refine AWP.seqk fun K3 hK3 => ?_
  refine AWP.region (AOPS.all (by simp (disch := first|omega|(simp only[ln];omega)) [len_Wd (P := Try.prog) #[111] rfl elT111, idf_Wd', idf_numS, cells_numS, numS_fold]; rfl) ?_)
  refine hK3 _ ?_
  refine cond_ok _ (by simp (disch := first|omega|(simp only[ln];omega)); rfl) (fun h6 => ?_) (fun h6 => ?_)
  · try simp only [decide_eq_true_eq, decide_eq_false_iff_not] at h6
    have h0 : z = 0 := by simp at h6; exact dg_nil.mp h6
    refine AWP.seqk fun K4 hK4 => ?_
    refine AWP.region (AOPS.all (by simp (disch := first|omega|(simp only[ln];omega)) [idf_Wd', idf_numS, cells_numS, numS_fold]; rfl) ?_)
    refine hK4 _ ?_
    refine AWP.ret ?_
    exact hK _ _ _ _ trivial ((Fin.mk (r := numS z) (by simp [aRes, aResL, aRes1, idf_Wd', idf_numS, cells_numS, numS_fold])).cast (by rw [h0]; rfl))
  · try simp only [decide_eq_true_eq, decide_eq_false_iff_not] at h6
    have h0 : z ≠ 0 := by simp at h6; exact fun e => h6 (dg_nil.mpr e)
    refine AWP.skip ?_
    refine hK2 _ ?_
    refine AWP.seqk fun K5 hK5 => ?_
    refine AWP.region (AOPS.all (by simp (disch := first|omega|(simp only[ln];omega)) [idf_Wd', idf_numS, cells_numS, numS_fold]; rfl) ?_)
    refine hK5 _ ?_
    refine AWP.ret ?_
    exact hK _ _ _ _ trivial ((Fin.mk (r := .agg [.bool (!decide (z < 0)), Wd .u32 (dg z)]) (by simp [aRes, aResL, aRes1, idf_Wd', idf_numS, cells_numS, numS_fold])).cast (by unfold numS; rw [dg_neg]; congr 2; congr 1; rw [← decide_not, decide_eq_decide]; omega))

theorem l1Add_fc {j k : Nat} {a b : Int} (ha : Bg j a) (hb : Bg k b) (hj : j ≤ 68719476736) (hk : k ≤ 68719476736) : FC Try.prog 104 [numS a, numS b] (numS (a + b)) := by
  have la := ha.len32
  have lb := hb.len32
  have lab := addS_len ha hb
  have hab := addS_dg a b
  refine FC.body Try.func104 rfl (by simp [idfL, idf, idfLL_iff, idf_Wd', idf_numS, cells_numS, numS_fold]) (by simp [idfL, idf, idfLL_iff, idf_Wd', idf_numS, cells_numS, numS_fold]) 40 rfl fun nx K hK => ?_
  refine AWP.seqk fun K1 hK1 => ?_
  refine AWP.region (AOPS.all (by simp (disch := first|omega|(simp only[ln];omega)) [idf_Wd', idf_numS, cells_numS, numS_fold]; rfl) ?_)
  refine hK1 _ ?_
  refine AWP.seqk fun K2 hK2 => ?_
  refine AWP.seqk fun K3 hK3 => ?_
  refine AWP.region (AOPS.all (by simp (disch := first|omega|(simp only[ln];omega)) [idf_Wd', idf_numS, cells_numS, numS_fold]; rfl) ?_)
  refine hK3 _ ?_
  refine cond_ok _ (by simp (disch := first|omega|(simp only[ln];omega)); rfl) (fun h9 => ?_) (fun h9 => ?_)
  · try simp only [decide_eq_true_eq, decide_eq_false_iff_not] at h9
    have hs : (a < 0 ↔ b < 0) := by simpa using h9
    refine AWP.seqk fun K4 hK4 => ?_
    refine AWP.draw 8 Try.checked.mixed (by kernel_rfl) (by simp) ?_
    simp only [List.take_succ_cons, List.take_zero, List.drop_succ_cons, List.drop_zero]
    refine DP.runFk 6 (by simp (disch := first|omega|(simp only[ln];omega)) [runDf.eq_def, runF1, runF2, stepF.eq_def, updo.eq_def, hupo.eq_def, opSto1.eq_def, List.take_succ_cons, List.take_zero, idf_Wd', idf_numS, cells_numS, numS_fold]; rfl) fun fs5 hfs5 => ?_
    replace hfs5 : fs5.length = 6 := hfs5.trans rfl
    simp only [List.drop_succ_cons, List.drop_zero]
    refine DP.fcall (l1AddAbs_fc (dg a) (dg b) (by omega) (by omega) (dg_dig a) (dg_dig b)) rfl rfl rfl hb196 (by simp (disch := first|omega|(simp only[ln];omega)) [idf_Wd', idf_numS, cells_numS, numS_fold]) (by simp (disch := first|omega|(simp only[ln];omega))) (by simp) ?_
    simp only [updo]
    refine DP.fcall (l1Trim_fc (decide (a < 0)) (addS (dg a) (dg b)) (by omega) hab.1) rfl rfl rfl hb195 (by simp (disch := first|omega|(simp only[ln];omega)) [idf_Wd', idf_numS, cells_numS, numS_fold]) (by simp (disch := first|omega|(simp only[ln];omega))) (by simp) ?_
    simp only [updo]
    refine DQ.runF (m := 8) (by simp only [List.length_append, List.length_cons, List.length_nil, hfs5]; omega) _ _ _ (by kernel_rfl) rfl (by simp (disch := first|omega|(simp only[ln];omega)) [runDf.eq_def, runF1, runF2, stepF.eq_def, updo.eq_def, hupo.eq_def, opSto1.eq_def, idf_Wd', idf_numS, cells_numS, numS_fold]; rfl) ?_
    refine hK4 _ ?_
    refine AWP.ret ?_
    exact hK _ _ _ _ trivial ((Fin.mk (r := numS (sg (decide (a < 0)) (val 4294967296 (addS (dg a) (dg b))))) (by simp [aRes, aResL, aRes1, idf_Wd', idf_numS, cells_numS, numS_fold])).cast (by congr 1; rw [hab.2]; unfold sg; split <;> simp at * <;> omega))
  · try simp only [decide_eq_true_eq, decide_eq_false_iff_not] at h9
    have hs : ¬ (a < 0 ↔ b < 0) := by simpa using h9
    refine AWP.skip ?_
    refine hK2 _ ?_
    refine AWP.seqk fun K6 hK6 => ?_
    refine AWP.seqk fun K7 hK7 => ?_
    refine AWP.region ?_
    refine AOPS.runk 4 (by simp (disch := first|omega|(simp only[ln];omega)) [List.take_succ_cons, List.take_zero, idf_Wd', idf_numS, cells_numS, numS_fold]; rfl) ?_
    simp only [List.drop_succ_cons, List.drop_zero]
    refine AOPS.fcall (l1CmpAbs_fc (dg a) (dg b) (by omega) (by omega)) rfl rfl rfl hb197 (by simp (disch := first|omega|(simp only[ln];omega)) [idf_Wd', idf_numS, cells_numS, numS_fold]) (by simp (disch := first|omega|(simp only[ln];omega))) (by simp) ?_
    simp only [puts_some, updo]
    refine AOPS.all (by simp (disch := first|omega|(simp only[ln];omega)) [idf_Wd', idf_numS, cells_numS, numS_fold]; rfl) ?_
    refine hK7 _ ?_
    refine cond_ok _ (by simp (disch := first|omega|(simp only[ln];omega)); rfl) (fun h23 => ?_) (fun h23 => ?_)
    · try simp only [decide_eq_true_eq, decide_eq_false_iff_not] at h23
      have hc : b.natAbs ≤ a.natAbs := by
        have := cmpS_dg a b; omega
      have hsu := subS_dg hc
      refine AWP.seqk fun K8 hK8 => ?_
      refine AWP.draw 8 Try.checked.mixed (by kernel_rfl) (by simp) ?_
      simp only [List.take_succ_cons, List.take_zero, List.drop_succ_cons, List.drop_zero]
      refine DP.runFk 6 (by simp (disch := first|omega|(simp only[ln];omega)) [runDf.eq_def, runF1, runF2, stepF.eq_def, updo.eq_def, hupo.eq_def, opSto1.eq_def, List.take_succ_cons, List.take_zero, idf_Wd', idf_numS, cells_numS, numS_fold]; rfl) fun fs9 hfs9 => ?_
      replace hfs9 : fs9.length = 6 := hfs9.trans rfl
      simp only [List.drop_succ_cons, List.drop_zero]
      refine DP.fcall (l1SubAbs_fc (dg a) (dg b) (by omega) (dg_dig a) (dg_dig b)) rfl rfl rfl hb198 (by simp (disch := first|omega|(simp only[ln];omega)) [idf_Wd', idf_numS, cells_numS, numS_fold]) (by simp (disch := first|omega|(simp only[ln];omega))) (by simp) ?_
      simp only [updo]
      refine DP.fcall (l1Trim_fc (decide (a < 0)) (subS (dg a) (dg b)) (by omega) hsu.1) rfl rfl rfl hb195 (by simp (disch := first|omega|(simp only[ln];omega)) [idf_Wd', idf_numS, cells_numS, numS_fold]) (by simp (disch := first|omega|(simp only[ln];omega))) (by simp) ?_
      simp only [updo]
      refine DQ.runF (m := 8) (by simp only [List.length_append, List.length_cons, List.length_nil, hfs9]; omega) _ _ _ (by kernel_rfl) rfl (by simp (disch := first|omega|(simp only[ln];omega)) [runDf.eq_def, runF1, runF2, stepF.eq_def, updo.eq_def, hupo.eq_def, opSto1.eq_def, idf_Wd', idf_numS, cells_numS, numS_fold]; rfl) ?_
      refine hK8 _ ?_
      refine AWP.ret ?_
      exact hK _ _ _ _ trivial ((Fin.mk (r := numS (sg (decide (a < 0)) (val 4294967296 (subS (dg a) (dg b))))) (by simp [aRes, aResL, aRes1, idf_Wd', idf_numS, cells_numS, numS_fold])).cast (by congr 1; rw [hsu.2.2]; unfold sg; split <;> simp at * <;> omega))
    · try simp only [decide_eq_true_eq, decide_eq_false_iff_not] at h23
      have hc : a.natAbs ≤ b.natAbs := by
        have := cmpS_dg a b; omega
      have hsu := subS_dg hc
      refine AWP.skip ?_
      refine hK6 _ ?_
      refine AWP.seqk fun K10 hK10 => ?_
      refine AWP.draw 8 Try.checked.mixed (by kernel_rfl) (by simp) ?_
      simp only [List.take_succ_cons, List.take_zero, List.drop_succ_cons, List.drop_zero]
      refine DP.runFk 6 (by simp (disch := first|omega|(simp only[ln];omega)) [runDf.eq_def, runF1, runF2, stepF.eq_def, updo.eq_def, hupo.eq_def, opSto1.eq_def, List.take_succ_cons, List.take_zero, idf_Wd', idf_numS, cells_numS, numS_fold]; rfl) fun fs11 hfs11 => ?_
      replace hfs11 : fs11.length = 6 := hfs11.trans rfl
      simp only [List.drop_succ_cons, List.drop_zero]
      refine DP.fcall (l1SubAbs_fc (dg b) (dg a) (by omega) (dg_dig b) (dg_dig a)) rfl rfl rfl hb198 (by simp (disch := first|omega|(simp only[ln];omega)) [idf_Wd', idf_numS, cells_numS, numS_fold]) (by simp (disch := first|omega|(simp only[ln];omega))) (by simp) ?_
      simp only [updo]
      refine DP.fcall (l1Trim_fc (decide (b < 0)) (subS (dg b) (dg a)) (by omega) hsu.1) rfl rfl rfl hb195 (by simp (disch := first|omega|(simp only[ln];omega)) [idf_Wd', idf_numS, cells_numS, numS_fold]) (by simp (disch := first|omega|(simp only[ln];omega))) (by simp) ?_
      simp only [updo]
      refine DQ.runF (m := 8) (by simp only [List.length_append, List.length_cons, List.length_nil, hfs11]; omega) _ _ _ (by kernel_rfl) rfl (by simp (disch := first|omega|(simp only[ln];omega)) [runDf.eq_def, runF1, runF2, stepF.eq_def, updo.eq_def, hupo.eq_def, opSto1.eq_def, idf_Wd', idf_numS, cells_numS, numS_fold]; rfl) ?_
      refine hK10 _ ?_
      refine AWP.ret ?_
      exact hK _ _ _ _ trivial ((Fin.mk (r := numS (sg (decide (b < 0)) (val 4294967296 (subS (dg b) (dg a))))) (by simp [aRes, aResL, aRes1, idf_Wd', idf_numS, cells_numS, numS_fold])).cast (by congr 1; rw [hsu.2.2]; unfold sg; split <;> simp at * <;> omega))

theorem l1Sub_fc {j k : Nat} {a b : Int} (ha : Bg j a) (hb : Bg k b) (hj : j ≤ 68719476736) (hk : k ≤ 68719476736) : FC Try.prog 202 [numS a, numS b] (numS (a - b)) := by
  refine FC.body Try.func202 rfl (by simp [idfL, idf, idfLL_iff, idf_Wd', idf_numS, cells_numS, numS_fold]) (by simp [idfL, idf, idfLL_iff, idf_Wd', idf_numS, cells_numS, numS_fold]) 9 rfl fun nx K hK => ?_
  refine AWP.seqk fun K1 hK1 => ?_
  refine AWP.region (AOPS.all (by simp (disch := first|omega|(simp only[ln];omega)) [idf_Wd', idf_numS, cells_numS, numS_fold]; rfl) ?_)
  refine hK1 _ ?_
  refine AWP.seqk fun K2 hK2 => ?_
  refine AWP.draw 4 Try.checked.mixed (by kernel_rfl) (by simp) ?_
  simp only [List.take_succ_cons, List.take_zero, List.drop_succ_cons, List.drop_zero]
  refine DP.runFk 2 (by simp (disch := first|omega|(simp only[ln];omega)) [runDf.eq_def, runF1, runF2, stepF.eq_def, updo.eq_def, hupo.eq_def, opSto1.eq_def, List.take_succ_cons, List.take_zero, idf_Wd', idf_numS, cells_numS, numS_fold]; rfl) fun fs3 hfs3 => ?_
  replace hfs3 : fs3.length = 2 := hfs3.trans rfl
  simp only [List.drop_succ_cons, List.drop_zero]
  refine DP.fcall (l1Neg_fc b) rfl rfl rfl hb193 (by simp (disch := first|omega|(simp only[ln];omega)) [idf_Wd', idf_numS, cells_numS, numS_fold]) (by simp (disch := first|omega|(simp only[ln];omega))) (by simp) ?_
  simp only [updo]
  refine DP.fcall (l1Add_fc ha hb.neg hj hk) rfl rfl rfl hb104 (by simp (disch := first|omega|(simp only[ln];omega)) [idf_Wd', idf_numS, cells_numS, numS_fold]) (by simp (disch := first|omega|(simp only[ln];omega))) (by simp) ?_
  simp only [updo]
  refine DQ.runF (m := 4) (by simp only [List.length_append, List.length_cons, List.length_nil, hfs3]; omega) _ _ _ (by kernel_rfl) rfl (by simp (disch := first|omega|(simp only[ln];omega)) [runDf.eq_def, runF1, runF2, stepF.eq_def, updo.eq_def, hupo.eq_def, opSto1.eq_def, idf_Wd', idf_numS, cells_numS, numS_fold]; rfl) ?_
  refine hK2 _ ?_
  refine AWP.ret ?_
  exact hK _ _ _ _ trivial ((Fin.mk (r := numS (a + -b)) (by simp [aRes, aResL, aRes1, idf_Wd', idf_numS, cells_numS, numS_fold])).cast rfl)

theorem l1Cmp_fc {j k : Nat} {a b : Int} (ha : Bg j a) (hb : Bg k b) (hj : j ≤ 68719476736) (hk : k ≤ 68719476736) : FC Try.prog 168 [numS a, numS b] (.int .i64 (if a < b then -1 else if a > b then 1 else 0)) := by
  refine FC.body Try.func168 rfl (by simp [idfL, idf, idfLL_iff, idf_Wd', idf_numS, cells_numS, numS_fold]) (by simp [idfL, idf, idfLL_iff, idf_Wd', idf_numS, cells_numS, numS_fold]) 9 rfl fun nx K hK => ?_
  refine AWP.seqk fun K1 hK1 => ?_
  refine AWP.region (AOPS.all (by simp (disch := first|omega|(simp only[ln];omega)) [idf_Wd', idf_numS, cells_numS, numS_fold]; rfl) ?_)
  refine hK1 _ ?_
  refine AWP.seqk fun K2 hK2 => ?_
  refine AWP.region ?_
  refine AOPS.runk 2 (by simp (disch := first|omega|(simp only[ln];omega)) [List.take_succ_cons, List.take_zero, idf_Wd', idf_numS, cells_numS, numS_fold]; rfl) ?_
  simp only [List.drop_succ_cons, List.drop_zero]
  refine AOPS.fcall (l1Sub_fc ha hb hj hk) rfl rfl rfl hb202 (by simp (disch := first|omega|(simp only[ln];omega)) [idf_Wd', idf_numS, cells_numS, numS_fold]) (by simp (disch := first|omega|(simp only[ln];omega))) (by simp) ?_
  simp only [puts_some, updo]
  refine AOPS.fcall (l1Sign_fc (a - b)) rfl rfl rfl hb166 (by simp (disch := first|omega|(simp only[ln];omega)) [idf_Wd', idf_numS, cells_numS, numS_fold]) (by simp (disch := first|omega|(simp only[ln];omega))) (by simp) ?_
  simp only [puts_some, updo]
  refine AOPS.all (by simp (disch := first|omega|(simp only[ln];omega)) [idf_Wd', idf_numS, cells_numS, numS_fold]; rfl) ?_
  refine hK2 _ ?_
  refine AWP.ret ?_
  exact hK _ _ _ _ trivial ((Fin.mk (by simp [aRes, aResL, aRes1, idf_Wd', idf_numS, cells_numS, numS_fold]; rfl)).cast (by congr 1; split <;> split <;> simp at * <;> first | rfl | omega | (split <;> first | rfl | omega)))

theorem l1Int_fc (n : Int) (h1 : -9223372036854775808 ≤ n) (h2 : n ≤ 9223372036854775807) : FC Try.prog 106 [.int .i64 n] (numS n) := by
  refine FC.body Try.func106 rfl (by simp [idfL, idf, idfLL_iff, idf_Wd', idf_numS, cells_numS, numS_fold]) (by simp [idfL, idf, idfLL_iff, idf_Wd', idf_numS, cells_numS, numS_fold]) 19 rfl fun nx K hK => ?_
  refine AWP.seqk fun K1 hK1 => ?_
  refine AWP.region (AOPS.all (by simp (disch := first|omega|(simp only[ln];omega)) [idf_Wd', idf_numS, cells_numS, numS_fold]; rfl) ?_)
  refine hK1 _ ?_
  refine AWP.seqk fun K2 hK2 => ?_
  refine AWP.region (AOPS.all (by simp (disch := first|omega|(simp only[ln];omega)) [idf_Wd', idf_numS, cells_numS, numS_fold]; rfl) ?_)
  refine hK2 _ ?_
  refine AWP.seqk fun K3 hK3 => ?_
  have J3 : ∀ s : St, (s.env 0 = .int .i64 n ∧ s.env 2 = .ptr nx 0 0 ∧ s.env 3 = .int .u64 (n.natAbs : Int) ∧ s.heap = hupd (fun _ => none) nx (some (2, [[.bool false, .nsl]])) ∧ s.nx = nx + 1 ∧ s.nt = 19) → K3 s := by
    rintro ⟨e, H, m, nt⟩ ⟨h0, hp, h3, rfl, rfl, rfl⟩
    simp only [] at h0 hp h3
    generalize hm : n.natAbs = u at *
    have hw1 : IntKind.u32.wrap (u : Int) = (u : Int) % 4294967296 := wrap_u32m _
    refine hK3 _ ?_
    refine AWP.seqk fun K4 hK4 => ?_
    refine AWP.region ?_
    refine AOPS.runk 8 (by simp (disch := first|omega|(simp only[ln];omega)) [List.take_succ_cons, List.take_zero, idf_Wd', idf_numS, cells_numS, numS_fold, h0, hp, h3, hw1, IntKind.bits, Int.fdiv_eq_ediv_of_nonneg]; rfl) ?_
    simp only [List.drop_succ_cons, List.drop_zero]
    refine AOPS.frz1 17 (nx + 1) 1 (wd .u32 [(u : Int) % 4294967296, (u : Int) / 4294967296]) (Wd .u32 [(u : Int) % 4294967296, (u : Int) / 4294967296]) (by simp) (by simp; first | exact fz_wd rfl | exact isl_take_wd (by simp)) ?_
    refine AOPS.fcall (l1Trim_fc (decide (n < 0)) [(u : Int) % 4294967296, (u : Int) / 4294967296] (by simp) (Dig.cons (by omega) (by omega) (Dig.cons (by omega) (by omega) (Dig.nil _)))) rfl rfl rfl hb195 (by simp (disch := first|omega|(simp only[ln];omega)) [idf_Wd', h0, hp, h3, hw1, IntKind.bits, Int.fdiv_eq_ediv_of_nonneg, idf_numS, cells_numS, numS_fold]) (by simp (disch := first|omega|(simp only[ln];omega)) [h0, hp, h3, hw1, IntKind.bits, Int.fdiv_eq_ediv_of_nonneg]) (by simp) ?_
    simp only [puts_some, updo]
    refine AOPS.all (by simp (disch := first|omega|(simp only[ln];omega)) [idf_Wd', idf_numS, cells_numS, numS_fold, h0, hp, h3, hw1, IntKind.bits, Int.fdiv_eq_ediv_of_nonneg]; rfl) ?_
    refine hK4 _ ?_
    refine AWP.ret ?_
    exact hK _ _ _ _ trivial ((Fin.mk (r := numS (sg (decide (n < 0)) (val 4294967296 [(u : Int) % 4294967296, (u : Int) / 4294967296]))) (by simp [aRes, aResL, aRes1, hp, idf_Wd', idf_numS, cells_numS, numS_fold])).cast (by congr 1; simp only [val]; unfold sg; split <;> simp at * <;> omega))
  refine AWP.seqk fun K5 hK5 => ?_
  refine AWP.region (AOPS.all (by simp (disch := first|omega|(simp only[ln];omega)) [idf_Wd', idf_numS, cells_numS, numS_fold]; rfl) ?_)
  refine hK5 _ ?_
  refine cond_ok _ (by simp (disch := first|omega|(simp only[ln];omega)); rfl) (fun h7 => ?_) (fun h7 => ?_)
  · try simp only [decide_eq_true_eq, decide_eq_false_iff_not] at h7
    refine AWP.region (AOPS.all (by simp (disch := first|omega|(simp only[ln];omega)) [idf_Wd', idf_numS, cells_numS, numS_fold, wrap_u64m]; rfl) ?_)
    refine J3 _ ?_
    refine ⟨by simp, by simp, ?_, by simp, rfl, rfl⟩
    simp [wrap_u64m]; omega
  · try simp only [decide_eq_true_eq, decide_eq_false_iff_not] at h7
    refine AWP.skip ?_
    refine J3 _ ?_
    refine ⟨by simp, by simp, ?_, by simp, rfl, rfl⟩
    simp [wrap_u64m]; omega

end Go.Proofs.Ytmaebeknmiomnaa

/- Walks: the reference's products. -/
namespace Go.Proofs.Ytmaebeknmiomnaa
open Go Go.RowKit
set_option linter.unusedSimpArgs false
set_option linter.unusedVariables false
set_option maxRecDepth 100000
attribute [local simp] List.getElem?_cons_zero List.getElem?_cons_succ List.getElem?_toArray runOps stepOp.eq_def agd.eq_def dstOk.eq_def opVal.eq_def opNew.eq_def opSto.eq_def ev.eq_def cv.eq_def puts_some puts_none upd_ap lst.eq_def aBin.eq_def aUn.eq_def aBi_str aBi_isl aBi_osl aBi_nsl aBi_max aBi_min aBi_max3 aConv.eq_def aLd.eq_def aLoad.eq_def aField.eq_def aFld.eq_def aIdx_isl aIdx_osl aSlc_isl aSlc_osl aSlc_str aSlc_nsl bnd.eq_def evs_nil evs_cons aBuild.eq_def aFill splice.eq_def cells_agg cells_int cells_bool cells_str cells_nil cells_nsl cells_isl cells_osl cells_ptr cells_ip cells_fn cells_Wd one_int one_bool one_str one_nil one_nsl one_isl one_osl one_ptr one_ip one_fn one_Wd aSets hupd_eq hupd_ne wrap_i64s wrap_u64s wrap_u32s wrap_u8s wd_getD wd_set wd_len wd_replicate wd_one wd_fold fz_osl hupd_same aSix.eq_def aEqS.eq_def aEqB_bool aEqB_nsl aEqB_nil
attribute [local simp] szT2 byT2 agT2 unT2 zoT2 szT3 byT3 agT3 unT3 zoT3 szT4 byT4 agT4 unT4 zoT4 szT24 byT24 agT24 unT24 zoT24 szT111 byT111 agT111 elT111 unT111 zoT111 szT113 byT113 agT113 flT113 fdT113_0 fdT113_1 zoT113 szT225 byT225 agT225 unT225 zoT225

/-- The variables of 'l1Mul'. -/
def heapS (nx : Nat) (a b : Int) : Heap := hupd (hupd (hupd (fun _ => none) nx (some (2, [[.bool (decide (a < 0)), Wd .u32 (dg a)]]))) (nx + 1) (some (2, [[.bool (decide (b < 0)), Wd .u32 (dg b)]]))) (nx + 1 + 1) (some (2, [[.bool false, .nsl]]))
theorem mul_step32 {x y o c : Int} (hx : 0 ≤ x ∧ x < 4294967296) (hy : 0 ≤ y ∧ y < 4294967296) (ho : 0 ≤ o ∧ o < 4294967296) (hc : 0 ≤ c ∧ c < 4294967296) :
    0 ≤ x * y ∧ x * y ≤ 18446744065119617025 ∧ 0 ≤ (c + x * y + o) / 4294967296 ∧ (c + x * y + o) / 4294967296 < 4294967296 ∧ (c + x * y + o) % 4294967296 + 4294967296 * ((c + x * y + o) / 4294967296) = x * y + o + c := by
  have h := prod_bound x y hx.1 (by omega) hy.1 (by omega)
  generalize x * y = p at *
  omega
theorem sg_mulS (a b : Int) : numS (sg (!(decide (a < 0) == decide (b < 0))) ((a.natAbs : Int) * (b.natAbs : Int))) = numS (a * b) := by
  congr 1
  rw [← Int.natCast_mul, ← Int.natAbs_mul]
  by_cases ha : a < 0 <;> by_cases hb : b < 0
  · have := Int.mul_nonneg (show 0 ≤ -a by omega) (show 0 ≤ -b by omega)
    rw [Int.neg_mul_neg] at this
    simp [sg, ha, hb]; omega
  · have := Int.mul_nonneg (show 0 ≤ -a by omega) (show 0 ≤ b by omega)
    rw [Int.neg_mul] at this
    simp [sg, ha, hb]; omega
  · have := Int.mul_nonneg (show 0 ≤ a by omega) (show 0 ≤ -b by omega)
    rw [Int.mul_neg] at this
    simp [sg, ha, hb]; omega
  · have := Int.mul_nonneg (show 0 ≤ a by omega) (show 0 ≤ b by omega)
    simp [sg, ha, hb]; omega

set_option maxHeartbeats 1000000 in
theorem l1Mul_fc {j k : Nat} {a b : Int} (ha : Bg j a) (hb : Bg k b) (hj : j ≤ 68719476736) (hk : k ≤ 68719476736) : FC Try.prog 105 [numS a, numS b] (numS (a * b)) := by
  have la : (dg a).length ≤ 137438953472 := by have := ha.len32; omega
  have lb : (dg b).length ≤ 137438953472 := by have := hb.len32; omega
  have da := dg_dig a
  have db := dg_dig b
  refine FC.body Try.func105 rfl (by simp [idfL, idf, idfLL_iff, idf_Wd', idf_numS, cells_numS, numS_fold]) (by simp [idfL, idf, idfLL_iff, idf_Wd', idf_numS, cells_numS, numS_fold]) 90 rfl fun nx K hK => ?_
  refine AWP.seqk fun K1 hK1 => ?_
  refine AWP.region (AOPS.all (by simp (disch := first|omega|(simp only[ln];omega)) [idf_Wd', idf_numS, cells_numS, numS_fold]; rfl) ?_)
  refine hK1 _ ?_
  refine AWP.seqk fun K2 hK2 => ?_
  refine AWP.seqk fun K3 hK3 => ?_
  by_cases ha0 : dg a = []
  · refine AWP.region (AOPS.all (by simp (disch := first|omega|(simp only[ln];omega)) [len_Wd (P := Try.prog) #[111] rfl elT111, idf_Wd', idf_numS, cells_numS, numS_fold, ha0]; rfl) ?_)
    refine hK3 _ ?_
    refine cond_ok _ (by simp (disch := first|omega|(simp only[ln];omega)); rfl) (fun h18 => ?_) (fun h18 => ?_)
    · try simp only [decide_eq_true_eq, decide_eq_false_iff_not] at h18
      refine AWP.seqk fun K4 hK4 => ?_
      refine AWP.region (AOPS.all (by simp (disch := first|omega|(simp only[ln];omega)) [idf_Wd', idf_numS, cells_numS, numS_fold]; rfl) ?_)
      refine hK4 _ ?_
      refine AWP.ret ?_
      exact hK _ _ _ _ trivial ((Fin.mk (r := .agg [.bool false, .nsl]) (by simp [aRes, aResL, aRes1, idf_Wd', idf_numS, cells_numS, numS_fold])).weak (by rw [dg_nil.mp ha0, Int.zero_mul]; exact fun _ _ _ _ => nS0_weak))
    · simp at h18
  · have ea : (((dg a).length : Int) == 0) = false := beq_eq_false_iff_ne.mpr (by have := List.length_pos_iff.mpr ha0; omega)
    by_cases hb0 : dg b = []
    · refine AWP.region (AOPS.all (by simp (disch := first|omega|(simp only[ln];omega)) [len_Wd (P := Try.prog) #[111] rfl elT111, idf_Wd', idf_numS, cells_numS, numS_fold, ea, hb0]; rfl) ?_)
      refine hK3 _ ?_
      refine cond_ok _ (by simp (disch := first|omega|(simp only[ln];omega)); rfl) (fun h18 => ?_) (fun h18 => ?_)
      · try simp only [decide_eq_true_eq, decide_eq_false_iff_not] at h18
        refine AWP.seqk fun K5 hK5 => ?_
        refine AWP.region (AOPS.all (by simp (disch := first|omega|(simp only[ln];omega)) [idf_Wd', idf_numS, cells_numS, numS_fold]; rfl) ?_)
        refine hK5 _ ?_
        refine AWP.ret ?_
        exact hK _ _ _ _ trivial ((Fin.mk (r := .agg [.bool false, .nsl]) (by simp [aRes, aResL, aRes1, idf_Wd', idf_numS, cells_numS, numS_fold])).weak (by rw [dg_nil.mp hb0, Int.mul_zero]; exact fun _ _ _ _ => nS0_weak))
      · simp at h18
    · have eb : (((dg b).length : Int) == 0) = false := beq_eq_false_iff_ne.mpr (by have := List.length_pos_iff.mpr hb0; omega)
      refine AWP.region (AOPS.all (by simp (disch := first|omega|(simp only[ln];omega)) [len_Wd (P := Try.prog) #[111] rfl elT111, idf_Wd', idf_numS, cells_numS, numS_fold, ea, eb]; rfl) ?_)
      refine hK3 _ ?_
      refine cond_ok _ (by simp (disch := first|omega|(simp only[ln];omega)); rfl) (fun h18 => ?_) (fun h18 => ?_)
      · simp at h18
      · try simp only [decide_eq_true_eq, decide_eq_false_iff_not] at h18
        refine AWP.skip ?_
        refine hK2 _ ?_
        refine AWP.seqk fun K6 hK6 => ?_
        refine AWP.region (AOPS.all (by simp (disch := first|omega|(simp only[ln];omega)) [if_pos, len_Wd (P := Try.prog) #[111] rfl elT111, idf_Wd', idf_numS, cells_numS, numS_fold]; rfl) ?_)
        refine hK6 _ ?_
        refine AWP.seqk fun K7 hK7 => ?_
        refine AWP.seqk fun K8 hK8 => ?_
        refine AWP.region (AOPS.all (by simp (disch := first|omega|(simp only[ln];omega)) [idf_Wd', idf_numS, cells_numS, numS_fold]; rfl) ?_)
        refine hK8 _ ?_
        refine AWP.block ?_
        refine AWP.loop (fun n s => ∃ i out, n = (dg a).length - i ∧ i ≤ (dg a).length ∧ out.length = (dg a).length + (dg b).length ∧ Dig 4294967296 out ∧ val 4294967296 out = val 4294967296 ((dg a).take i) * val 4294967296 (dg b) ∧ (∀ q, i + (dg b).length ≤ q → gt out q = 0) ∧ s.env 2 = .ptr nx 0 0 ∧ s.env 3 = .ptr (nx + 1) 0 0 ∧ s.env 4 = .ptr (nx + 1 + 1) 0 0 ∧ s.env 5 = .osl (nx + 1 + 1 + 1) 0 ((dg a).length + (dg b).length) ∧ s.env 6 = .int .i64 (i : Int) ∧ s.heap = hupd (heapS nx a b) (nx + 1 + 1 + 1) (some (1, wd .u32 out)) ∧ s.nt = 90) ((dg a).length) (⟨0, List.replicate ((dg a).length + (dg b).length) 0, by omega, by omega, by simp, Dig.replicate _ (by omega) (by omega), by simp [val, val_replicate], by intro q _; simp [gt, List.getElem?_replicate]; split <;> rfl, by simp, by simp, by simp, by simp; omega, by simp, by simp [heapS]; rfl, rfl⟩) ?_
        rintro n ⟨e, H, nx2, nt⟩ ⟨i, out, rfl, hi, ho, hd, hval, hz, h2, h3, h4, h5, h6, rfl, rfl⟩
        simp only [] at h2 h3 h4 h5 h6
        refine AWP.seqk fun K9 hK9 => ?_
        refine AWP.seqk fun K10 hK10 => ?_
        refine AWP.region (AOPS.all (by simp (disch := first|omega|(simp only[ln];omega)) [len_Wd (P := Try.prog) #[111] rfl elT111, idf_Wd', idf_numS, cells_numS, numS_fold, h2, h6, heapS]; rfl) ?_)
        refine hK10 _ ?_
        refine cond_ok _ (by simp (disch := first|omega|(simp only[ln];omega)); rfl) (fun h32 => ?_) (fun h32 => ?_)
        · try simp only [decide_eq_true_eq, decide_eq_false_iff_not] at h32
          have hi' : i < (dg a).length := by omega
          refine AWP.skip ?_
          refine hK9 _ ?_
          refine AWP.seqk fun K11 hK11 => ?_
          refine AWP.block ?_
          refine AWP.seqk fun K12 hK12 => ?_
          refine AWP.region (AOPS.all (by simp (disch := first|omega|(simp only[ln];omega)) [idf_Wd', idf_numS, cells_numS, numS_fold]; rfl) ?_)
          refine hK12 _ ?_
          refine AWP.seqk fun K13 hK13 => ?_
          refine AWP.seqk fun K14 hK14 => ?_
          refine AWP.region (AOPS.all (by simp (disch := first|omega|(simp only[ln];omega)) [idf_Wd', idf_numS, cells_numS, numS_fold]; rfl) ?_)
          refine hK14 _ ?_
          refine AWP.block ?_
          refine AWP.loop (fun n s => ∃ q out2 c, n = (dg b).length - q ∧ q ≤ (dg b).length ∧ out2.length = (dg a).length + (dg b).length ∧ Dig 4294967296 out2 ∧ 0 ≤ c ∧ c < 4294967296 ∧ val 4294967296 out2 + c * (4294967296 : Int) ^ (i + q) = val 4294967296 ((dg a).take i) * val 4294967296 (dg b) + (4294967296 : Int) ^ i * gt (dg a) i * val 4294967296 ((dg b).take q) ∧ (∀ j, i + (dg b).length ≤ j → gt out2 j = 0) ∧ s.env 2 = .ptr nx 0 0 ∧ s.env 3 = .ptr (nx + 1) 0 0 ∧ s.env 4 = .ptr (nx + 1 + 1) 0 0 ∧ s.env 5 = .osl (nx + 1 + 1 + 1) 0 ((dg a).length + (dg b).length) ∧ s.env 6 = .int .i64 (i : Int) ∧ s.env 7 = .int .u64 c ∧ s.env 8 = .int .i64 (q : Int) ∧ s.heap = hupd (heapS nx a b) (nx + 1 + 1 + 1) (some (1, wd .u32 out2)) ∧ s.nt = 90) ((dg b).length) (⟨0, out, 0, by omega, by omega, ho, hd, by omega, by omega, by simp [val, hval], hz, by simp [h2], by simp [h3], by simp [h4], by simp [h5], by simp [h6], by simp, by simp, by simp [heapS], rfl⟩) ?_
          clear h2 h3 h4 h5 h6
          rintro n ⟨e, H, nx2, nt⟩ ⟨q, out2, c, rfl, hq, ho2, hd2, hc0, hc1, hval2, hz2, h2, h3, h4, h5, h6, h7, h8, rfl, rfl⟩
          simp only [] at h2 h3 h4 h5 h6 h7 h8
          refine AWP.seqk fun K15 hK15 => ?_
          refine AWP.seqk fun K16 hK16 => ?_
          refine AWP.region (AOPS.all (by simp (disch := first|omega|(simp only[ln];omega)) [len_Wd (P := Try.prog) #[111] rfl elT111, idf_Wd', idf_numS, cells_numS, numS_fold, h3, h8, heapS]; rfl) ?_)
          refine hK16 _ ?_
          refine cond_ok _ (by simp (disch := first|omega|(simp only[ln];omega)); rfl) (fun h39 => ?_) (fun h39 => ?_)
          · try simp only [decide_eq_true_eq, decide_eq_false_iff_not] at h39
            have hq' : q < (dg b).length := by omega
            have hgx := da.gt (by omega) i
            have hgy := db.gt (by omega) q
            have hgo := hd2.gt (by omega) (i + q)
            have hms := mul_step32 hgx hgy hgo ⟨hc0, hc1⟩
            have hpr0 := hms.1
            have hpr1 := hms.2.1
            have hiq : ((i : Int) + (q : Int)).toNat = i + q := by omega
            refine AWP.skip ?_
            refine hK15 _ ?_
            refine AWP.seqk fun K17 hK17 => ?_
            refine AWP.block ?_
            refine AWP.seqk fun K18 hK18 => ?_
            refine AWP.drawF 23 Try.checked.mixed (by kernel_rfl) (by simp (disch := first|omega|(simp only[ln];omega)) [runDf.eq_def, runF1, runF2, stepF.eq_def, updo.eq_def, hupo.eq_def, opSto1.eq_def, idx_WdD (P := Try.prog) elT111 szT225, if_pos, idf_Wd', idf_numS, cells_numS, numS_fold, h2, h3, h5, h6, h7, h8, heapS, hiq, ho2, ld_ip agT225]; rfl) ?_
            refine hK18 _ ?_
            refine AWP.seqk fun K19 hK19 => ?_
            refine AWP.region (AOPS.all (by simp (disch := first|omega|(simp only[ln];omega)) [idx_WdD (P := Try.prog) elT111 szT225, if_pos, idf_Wd', idf_numS, cells_numS, numS_fold, h5, h6, h8, heapS, hiq, ho2, wrap_u32m]; rfl) ?_)
            refine hK19 _ ?_
            refine AWP.region (AOPS.all (by simp (disch := first|omega|(simp only[ln];omega)) [idf_Wd', idf_numS, cells_numS, numS_fold, IntKind.bits, Int.fdiv_eq_ediv_of_nonneg]; rfl) ?_)
            refine hK17 _ ?_
            refine AWP.region (AOPS.all (by simp (disch := first|omega|(simp only[ln];omega)) [idf_Wd', idf_numS, cells_numS, numS_fold, h8]; rfl) ?_)
            have hp1 : (4294967296 : Int) ^ (i + (q + 1)) = (4294967296 : Int) ^ i * (4294967296 : Int) ^ q * 4294967296 := by rw [← Nat.add_assoc, Int.pow_succ, Int.pow_add]
            have hp2 : (4294967296 : Int) ^ (i + q) = (4294967296 : Int) ^ i * (4294967296 : Int) ^ q := Int.pow_add _ _ _
            refine ⟨(dg b).length - (q + 1), by omega, q + 1, out2.set (i + q) ((c + gt (dg a) i * gt (dg b) q + gt out2 (i + q)) % 4294967296), (c + gt (dg a) i * gt (dg b) q + gt out2 (i + q)) / 4294967296, rfl, by omega, by simp [ho2], hd2.set _ (Int.emod_nonneg _ (by omega)) (Int.emod_lt_of_pos _ (by omega)), hms.2.2.1, hms.2.2.2.1, ?_, fun j hj => by rw [gt_set_ne (by omega)]; exact hz2 j (by omega), by simp [h2], by simp [h3], by simp [h4], by simp [h5], by simp [h6], by simp, by simp (disch := omega) [h8], by simp [heapS], rfl⟩
            rw [val_setC (by omega), val_take32, hp1]
            rw [hp2] at hval2 ⊢
            have := hms.2.2.2.2
            grind
          · try simp only [decide_eq_true_eq, decide_eq_false_iff_not] at h39
            obtain rfl : q = (dg b).length := by omega
            refine AWP.exit ?_
            refine hK13 _ ?_
            have hil : ((i : Int) + ((dg b).length : Int)).toNat = i + (dg b).length := by omega
            refine AWP.region (AOPS.all (by simp (disch := first|omega|(simp only[ln];omega)) [idx_WdD (P := Try.prog) elT111 szT225, if_pos, len_Wd (P := Try.prog) #[111] rfl elT111, idf_Wd', idf_numS, cells_numS, numS_fold, h3, h5, h6, h7, heapS, ho2, hil]; rfl) ?_)
            refine hK11 _ ?_
            refine AWP.region (AOPS.all (by simp (disch := first|omega|(simp only[ln];omega)) [idf_Wd', idf_numS, cells_numS, numS_fold, h6]; rfl) ?_)
            have hpw : (4294967296 : Int) ^ (i + (dg b).length) = (4294967296 : Int) ^ i * (4294967296 : Int) ^ (dg b).length := Int.pow_add _ _ _
            refine ⟨(dg a).length - (i + 1), by omega, i + 1, out2.set (i + (dg b).length) c, rfl, by omega, by simp [ho2], hd2.set _ hc0 hc1, ?_, fun j hj => by rw [gt_set_ne (by omega)]; exact hz2 j (by omega), by simp [h2], by simp [h3], by simp [h4], by simp [h5], by simp (disch := omega) [h6], by simp [heapS], rfl⟩
            rw [val_take_all (Nat.le_refl _)] at hval2
            rw [val_setC (by omega), hz2 _ (Nat.le_refl _), val_take32]
            grind
        · try simp only [decide_eq_true_eq, decide_eq_false_iff_not] at h32
          obtain rfl : i = (dg a).length := by omega
          refine AWP.exit ?_
          refine hK7 _ ?_
          refine AWP.seqk fun K20 hK20 => ?_
          refine AWP.region ?_
          refine AOPS.runk 6 (by simp (disch := first|omega|(simp only[ln];omega)) [List.take_succ_cons, List.take_zero, idf_Wd', idf_numS, cells_numS, numS_fold, h2, h3, h4, h5, heapS]; rfl) ?_
          simp only [List.drop_succ_cons, List.drop_zero]
          refine AOPS.frz1 88 (nx + 1 + 1 + 1) 1 (wd .u32 out) (Wd .u32 out) (by simp) (by simp; first | exact fz_wd (by omega) | exact isl_take_wd (by omega)) ?_
          refine AOPS.fcall (l1Trim_fc (!(decide (a < 0) == decide (b < 0))) out (by omega) hd) rfl rfl rfl hb195 (by simp (disch := first|omega|(simp only[ln];omega)) [idf_Wd', h2, h3, h4, h5, heapS, idf_numS, cells_numS, numS_fold]) (by simp (disch := first|omega|(simp only[ln];omega)) [h2, h3, h4, h5, heapS]) (by simp) ?_
          simp only [puts_some, updo]
          refine AOPS.all (by simp (disch := first|omega|(simp only[ln];omega)) [idf_Wd', idf_numS, cells_numS, numS_fold, h2, h3, h4, h5, heapS]; rfl) ?_
          refine hK20 _ ?_
          refine AWP.ret ?_
          exact hK _ _ _ _ trivial ((Fin.mk (r := numS (sg (!(decide (a < 0) == decide (b < 0))) (val 4294967296 out))) (by simp [aRes, aResL, aRes1, h4, idf_Wd', idf_numS, cells_numS, numS_fold])).cast (by rw [hval, val_take_all (Nat.le_refl _), dg_val, dg_val, sg_mulS]))

theorem l1Bits_fc {k : Nat} {z : Int} (hz : Bg k z) (hk : k ≤ 68719476736) : FC Try.prog 211 [Wd .u32 (dg z)] (.int .i64 (bitLen z.natAbs : Int)) := by
  have lz : (dg z).length ≤ 137438953472 := by have := hz.len32; omega
  refine FC.body Try.func211 rfl (by simp [idfL, idf, idfLL_iff, idf_Wd']) (by simp [idfL, idf, idfLL_iff, idf_Wd']) 25 rfl fun nx K hK => ?_
  refine AWP.seqk fun K1 hK1 => ?_
  refine AWP.region (AOPS.all (by simp (disch := first|omega|(simp only[ln];omega)) [idf_Wd']; rfl) ?_)
  refine hK1 _ ?_
  refine AWP.seqk fun K2 hK2 => ?_
  refine AWP.seqk fun K3 hK3 => ?_
  refine AWP.region (AOPS.all (by simp (disch := first|omega|(simp only[ln];omega)) [len_Wd (P := Try.prog) #[111] rfl elT111, idf_Wd']; rfl) ?_)
  refine hK3 _ ?_
  refine cond_ok _ (by simp (disch := first|omega|(simp only[ln];omega)); rfl) (fun h7 => ?_) (fun h7 => ?_)
  · try simp only [decide_eq_true_eq, decide_eq_false_iff_not] at h7
    have h0 : z = 0 := by simp at h7; exact dg_nil.mp h7
    refine AWP.seqk fun K4 hK4 => ?_
    refine AWP.region (AOPS.all (by simp (disch := first|omega|(simp only[ln];omega)) [idf_Wd']; rfl) ?_)
    refine hK4 _ ?_
    refine AWP.ret ?_
    exact hK _ _ _ _ trivial (Fin.mk (by simp [aRes, aResL, aRes1, h0, bitLen]))
  · try simp only [decide_eq_true_eq, decide_eq_false_iff_not] at h7
    have h0 : 0 < (dg z).length := by simp at h7; exact List.length_pos_iff.mpr h7
    have hg := (dg_dig z).gt (by omega) ((dg z).length - 1)
    obtain ⟨q, hq⟩ : ∃ q : Nat, gt (dg z) ((dg z).length - 1) = (q : Int) := ⟨_, (Int.toNat_of_nonneg hg.1).symm⟩
    have hs := bitLen_topS z q h0 hq
    have he : (((dg z).length : Int) - 1).toNat = (dg z).length - 1 := by omega
    refine AWP.skip ?_
    refine hK2 _ ?_
    refine AWP.seqk fun K5 hK5 => ?_
    refine AWP.region (AOPS.all (by simp (disch := first|omega|(simp only[ln];omega)) [len_Wd (P := Try.prog) #[111] rfl elT111, idf_Wd']; rfl) ?_)
    refine hK5 _ ?_
    refine AWP.seqk fun K6 hK6 => ?_
    refine AWP.region (AOPS.all (by simp (disch := first|omega|(simp only[ln];omega)) [idx_WdD (P := Try.prog) elT111 szT225, if_pos, len_Wd (P := Try.prog) #[111] rfl elT111, idf_Wd', he, hq, ld_ip agT225]; rfl) ?_)
    refine hK6 _ ?_
    refine AWP.seqk fun K7 hK7 => ?_
    refine AWP.block ?_
    refine AWP.loop (fun n s => ∃ m : Nat, n = m ∧ m ≤ q ∧ s.env 3 = .int .i64 ((bitLen z.natAbs : Int) - bitLen m) ∧ s.env 4 = .int .u32 (m : Int) ∧ s.heap = (fun _ => none) ∧ s.nt = 25) (q) (⟨q, rfl, Nat.le_refl _, by simp (disch := omega); omega, by simp, rfl, rfl⟩) ?_
    rintro n ⟨e, H, nx2, nt⟩ ⟨m, rfl, hm, h3, h4, rfl, rfl⟩
    simp only [] at h3 h4
    have hb32 : bitLen q ≤ 32 := bitLen_le.mpr (by show q < 4294967296; omega)
    have hbm : bitLen n ≤ 32 := bitLen_le.mpr (by show n < 4294967296; omega)
    refine AWP.seqk fun K8 hK8 => ?_
    refine AWP.seqk fun K9 hK9 => ?_
    refine AWP.region (AOPS.all (by simp (disch := first|omega|(simp only[ln];omega)) [idf_Wd', h4]; rfl) ?_)
    refine hK9 _ ?_
    refine cond_ok _ (by simp (disch := first|omega|(simp only[ln];omega)); rfl) (fun h19 => ?_) (fun h19 => ?_)
    · try simp only [decide_eq_true_eq, decide_eq_false_iff_not] at h19
      have hh := bitLen_half (show n ≠ 0 by omega)
      refine AWP.skip ?_
      refine hK8 _ ?_
      refine AWP.block ?_
      refine AWP.seqk fun K10 hK10 => ?_
      refine AWP.region (AOPS.all (by simp (disch := first|omega|(simp only[ln];omega)) [idf_Wd', h3]; rfl) ?_)
      refine hK10 _ ?_
      refine AWP.region (AOPS.all (by simp (disch := first|omega|(simp only[ln];omega)) [idf_Wd', h4, IntKind.bits, Int.fdiv_eq_ediv_of_nonneg]; rfl) ?_)
      exact ⟨n / 2, by omega, n / 2, rfl, by omega, by simp (disch := omega); omega, by simp, rfl, rfl⟩
    · try simp only [decide_eq_true_eq, decide_eq_false_iff_not] at h19
      obtain rfl : n = 0 := by omega
      refine AWP.exit ?_
      refine hK7 _ ?_
      refine AWP.seqk fun K11 hK11 => ?_
      refine AWP.region (AOPS.all (by simp (disch := first|omega|(simp only[ln];omega)) [idf_Wd', h3]; rfl) ?_)
      refine hK11 _ ?_
      refine AWP.ret ?_
      exact hK _ _ _ _ trivial (Fin.mk (by simp [aRes, aResL, aRes1, bitLen]))

end Go.Proofs.Ytmaebeknmiomnaa

/- Walks: the reference's shifts. -/
namespace Go.Proofs.Ytmaebeknmiomnaa
open Go Go.RowKit
set_option linter.unusedSimpArgs false
set_option linter.unusedVariables false
set_option maxRecDepth 100000
attribute [local simp] List.getElem?_cons_zero List.getElem?_cons_succ List.getElem?_toArray runOps stepOp.eq_def agd.eq_def dstOk.eq_def opVal.eq_def opNew.eq_def opSto.eq_def ev.eq_def cv.eq_def puts_some puts_none upd_ap lst.eq_def aBin.eq_def aUn.eq_def aBi_str aBi_isl aBi_osl aBi_nsl aBi_max aBi_min aBi_max3 aConv.eq_def aLd.eq_def aLoad.eq_def aField.eq_def aFld.eq_def aIdx_isl aIdx_osl aSlc_isl aSlc_osl aSlc_str aSlc_nsl bnd.eq_def evs_nil evs_cons aBuild.eq_def aFill splice.eq_def cells_agg cells_int cells_bool cells_str cells_nil cells_nsl cells_isl cells_osl cells_ptr cells_ip cells_fn cells_Wd one_int one_bool one_str one_nil one_nsl one_isl one_osl one_ptr one_ip one_fn one_Wd aSets hupd_eq hupd_ne wrap_i64s wrap_u64s wrap_u32s wrap_u8s wd_getD wd_set wd_len wd_replicate wd_one wd_fold fz_osl hupd_same aSix.eq_def aEqS.eq_def aEqB_bool aEqB_nsl aEqB_nil
attribute [local simp] szT2 byT2 agT2 unT2 zoT2 szT3 byT3 agT3 unT3 zoT3 szT4 byT4 agT4 unT4 zoT4 szT24 byT24 agT24 unT24 zoT24 szT26 byT26 agT26 flT26 fdT26_0 fdT26_1 fdT26_2 fdT26_3 zoT26 szT111 byT111 agT111 elT111 unT111 zoT111 szT113 byT113 agT113 flT113 fdT113_0 fdT113_1 zoT113 szT194 byT194 agT194 unT194 zoT194 szT225 byT225 agT225 unT225 zoT225

theorem fld_numS (z : Int) : aFld Try.prog 113 (numS z) 1 = some (Wd .u32 (dg z)) := by
  simp only [aFld, numS, fdT113_1, agT111]; rfl

set_option maxHeartbeats 2000000 in
theorem l1Left_fc (d : List Int) (dd : Dig 4294967296 d) (q k : Nat) (hq : q ≤ 1073741824) (hk : k < 32) (hd : d.length ≤ 68719476736) : FC Try.prog 210 [Wd .u32 d, .int .i64 ((32 * q + k : Nat) : Int)] (Wd .u32 (dg (4294967296 ^ q * (val 4294967296 d * 2 ^ k)))) := by
  have hp1 : (1 : Int) ≤ 2 ^ k := by have : (0 : Int) < 2 ^ k := Int.pow_pos (by omega); omega
  have hp2 : (2 : Int) ^ k ≤ 2147483648 := by
    have : (2 : Nat) ^ k ≤ 2 ^ 31 := Nat.pow_le_pow_right (by omega) (by omega)
    have e : (((2 ^ k : Nat)) : Int) = (2 : Int) ^ k := by simp
    rw [← e]; have e2 : (2 : Nat) ^ 31 = 2147483648 := rfl; omega
  have hls := leftL_spec dd q hp1 hp2
  have ht1 : ((32 * q + k : Nat) : Int).tdiv 32 = q := by rw [Int.tdiv_eq_ediv_of_nonneg (by omega)]; omega
  have ht2 : ((32 * q + k : Nat) : Int).tmod 32 = k := by rw [Int.tmod_eq_emod_of_nonneg (by omega)]; omega
  have hmin : min k 64 = k := by omega
  generalize hN : ((32 * q + k : Nat) : Int) = N at *
  refine FC.body Try.func210 rfl (by simp [idfL, idf, idfLL_iff, idf_Wd', idf_numS, cells_numS, numS_fold]) (by simp [idfL, idf, idfLL_iff, idf_Wd', idf_numS, cells_numS, numS_fold]) 47 rfl fun nx K hK => ?_
  refine AWP.seqk fun K1 hK1 => ?_
  refine AWP.region (AOPS.all (by simp (disch := first|omega|(simp only[ln];omega)) [idf_Wd', idf_numS, cells_numS, numS_fold]; rfl) ?_)
  refine hK1 _ ?_
  refine AWP.seqk fun K2 hK2 => ?_
  refine AWP.region (AOPS.all (by simp (disch := first|omega|(simp only[ln];omega)) [if_pos, idf_Wd', idf_numS, cells_numS, numS_fold, ht1]; rfl) ?_)
  refine hK2 _ ?_
  refine AWP.seqk fun K3 hK3 => ?_
  refine AWP.region (AOPS.all (by simp (disch := first|omega|(simp only[ln];omega)) [idf_Wd', idf_numS, cells_numS, numS_fold, ht2]; rfl) ?_)
  refine hK3 _ ?_
  refine AWP.seqk fun K4 hK4 => ?_
  refine AWP.region (AOPS.all (by simp (disch := first|omega|(simp only[ln];omega)) [idf_Wd', idf_numS, cells_numS, numS_fold]; rfl) ?_)
  refine hK4 _ ?_
  refine AWP.seqk fun K5 hK5 => ?_
  refine AWP.seqk fun K6 hK6 => ?_
  refine AWP.region (AOPS.all (by simp (disch := first|omega|(simp only[ln];omega)) [idf_Wd', idf_numS, cells_numS, numS_fold]; rfl) ?_)
  refine hK6 _ ?_
  refine AWP.block ?_
  refine AWP.loop (fun n s => ∃ i id, n = d.length - i ∧ i ≤ d.length ∧ s.env 0 = Wd .u32 d ∧ s.env 5 = .osl id 0 (q + i) ∧ s.env 6 = .int .u64 (k : Int) ∧ s.env 7 = .int .u64 (leftR d (2 ^ k) i).2 ∧ s.env 8 = .int .i64 (i : Int) ∧ s.heap id = some (1, wd .u32 (List.replicate q 0 ++ (leftR d (2 ^ k) i).1)) ∧ id < s.nx ∧ s.nt = 47) (d.length) (⟨0, nx, by omega, by omega, by simp, by simp, by simp, by simp [leftR], by simp, by simp [leftR], by simp, rfl⟩) ?_
  rintro n ⟨e, H, m, nt⟩ ⟨i, id, rfl, hi, h0, h5, h6, h7, h8, hH, hid, rfl⟩
  simp only [] at h0 h5 h6 h7 h8 hH hid
  obtain ⟨r1, r2, r3, r4, r5⟩ := leftR_spec dd hp1 i
  have hlen : (List.replicate q (0 : Int) ++ (leftR d (2 ^ k) i).1).length = q + i := by simp [r1]
  have ht : List.take (q + i) (List.replicate q (0 : Int) ++ (leftR d (2 ^ k) i).1) = List.replicate q (0 : Int) ++ (leftR d (2 ^ k) i).1 := List.take_of_length_le (by omega)
  refine AWP.seqk fun K7 hK7 => ?_
  refine AWP.seqk fun K8 hK8 => ?_
  refine AWP.region (AOPS.all (by simp (disch := first|omega|(simp only[ln];omega)) [len_Wd (P := Try.prog) #[111] rfl elT111, idf_Wd', idf_numS, cells_numS, numS_fold, h0, h8]; rfl) ?_)
  refine hK8 _ ?_
  refine cond_ok _ (by simp (disch := first|omega|(simp only[ln];omega)); rfl) (fun h18 => ?_) (fun h18 => ?_)
  · try simp only [decide_eq_true_eq, decide_eq_false_iff_not] at h18
    have hi' : i < d.length := by omega
    have gd := dd.gt (by omega) i
    have hm0 : 0 ≤ gt d i * 2 ^ k := Int.mul_nonneg gd.1 (by omega)
    have hm1 : gt d i * 2 ^ k ≤ 4294967295 * 2147483648 := Int.mul_le_mul (by omega) hp2 (by omega) (by omega)
    have hor := or_join r3 r4 gd.1 (by omega) (by omega)
    refine AWP.skip ?_
    refine hK7 _ ?_
    refine AWP.seqk fun K9 hK9 => ?_
    refine AWP.block ?_
    refine AWP.seqk fun K10 hK10 => ?_
    refine AWP.region (AOPS.all (by simp (disch := first|omega|(simp only[ln];omega)) [idx_WdD (P := Try.prog) elT111 szT225, if_pos, idf_Wd', idf_numS, cells_numS, numS_fold, h0, h6, h7, h8, hmin, hor, IntKind.bits, ld_ip agT225]; rfl) ?_)
    refine hK10 _ ?_
    refine AWP.seqk fun K11 hK11 => ?_
    refine AWP.region ?_
    refine AOPS.runk 4 (by simp (disch := first|omega|(simp only[ln];omega)) [List.take_succ_cons, List.take_zero, idf_Wd', idf_numS, cells_numS, numS_fold, h5, hH, r1, ht, hlen, Nat.ne_of_lt hid]; rfl) ?_
    simp only [List.drop_succ_cons, List.drop_zero]
    refine AOPS.opapp (by simp (disch := first|omega|(simp only[ln];omega)) [opApp.eq_def, aSrc_isl, aSrc_osl, aSrc_nsl, aSrc_int, wd_app, wd_app2, if_pos, wd_append, wd_take, wd_drop, List.nil_append, idf_Wd', idf_numS, cells_numS, numS_fold, h5, hH, r1, ht, hlen, Nat.ne_of_lt hid, src_Wd' (P := Try.prog) elT111]; first | rfl | exact ⟨rfl, rfl⟩ | exact ⟨rfl, rfl, rfl⟩) (by simp) (by simp) ?_
    simp only [puts_some, hdrop]
    refine AOPS.all (by simp (disch := first|omega|(simp only[ln];omega)) [idf_Wd', idf_numS, cells_numS, numS_fold, h5, hH, r1, ht, hlen, Nat.ne_of_lt hid]; rfl) ?_
    refine hK11 _ ?_
    refine AWP.region (AOPS.all (by simp (disch := first|omega|(simp only[ln];omega)) [idf_Wd', idf_numS, cells_numS, numS_fold, IntKind.bits, Int.fdiv_eq_ediv_of_nonneg]; rfl) ?_)
    refine hK9 _ ?_
    refine AWP.region (AOPS.all (by simp (disch := first|omega|(simp only[ln];omega)) [idf_Wd', idf_numS, cells_numS, numS_fold, h8]; rfl) ?_)
    refine ⟨d.length - (i + 1), by omega, i + 1, m + 1, rfl, by omega, by simp [h0], by simp [r1] <;> omega, by simp [h6], by simp [leftR], by simp (disch := omega) [h8], by simp [leftR, ht, wrap_u32m], by simp, rfl⟩
  · try simp only [decide_eq_true_eq, decide_eq_false_iff_not] at h18
    obtain rfl : i = d.length := by omega
    refine AWP.exit ?_
    refine hK5 _ ?_
    refine AWP.seqk fun K12 hK12 => ?_
    refine AWP.seqk fun K13 hK13 => ?_
    refine AWP.region (AOPS.all (by simp (disch := first|omega|(simp only[ln];omega)) [idf_Wd', idf_numS, cells_numS, numS_fold, h7]; rfl) ?_)
    refine hK13 _ ?_
    refine cond_ok _ (by simp (disch := first|omega|(simp only[ln];omega)); rfl) (fun h38 => ?_) (fun h38 => ?_)
    · try simp only [decide_eq_true_eq, decide_eq_false_iff_not] at h38
      have hc : 0 < (leftR d (2 ^ k) d.length).2 := by omega
      have hm2 : (leftR d (2 ^ k) d.length).2 % 4294967296 = (leftR d (2 ^ k) d.length).2 := Int.emod_eq_of_lt r3 (by omega)
      refine AWP.region ?_
      refine AOPS.runk 4 (by simp (disch := first|omega|(simp only[ln];omega)) [List.take_succ_cons, List.take_zero, idf_Wd', idf_numS, cells_numS, numS_fold, h5, h7, hH, r1, ht, hlen, Nat.ne_of_lt hid]; rfl) ?_
      simp only [List.drop_succ_cons, List.drop_zero]
      refine AOPS.opapp (by simp (disch := first|omega|(simp only[ln];omega)) [opApp.eq_def, aSrc_isl, aSrc_osl, aSrc_nsl, aSrc_int, wd_app, wd_app2, if_pos, wd_append, wd_take, wd_drop, List.nil_append, idf_Wd', idf_numS, cells_numS, numS_fold, h5, h7, hH, r1, ht, hlen, Nat.ne_of_lt hid, src_Wd' (P := Try.prog) elT111]; first | rfl | exact ⟨rfl, rfl⟩ | exact ⟨rfl, rfl, rfl⟩) (by simp) (by simp) ?_
      simp only [puts_some, hdrop]
      refine AOPS.all (by simp (disch := first|omega|(simp only[ln];omega)) [idf_Wd', idf_numS, cells_numS, numS_fold, h5, h7, hH, r1, ht, hlen, Nat.ne_of_lt hid]; rfl) ?_
      refine hK12 _ ?_
      refine AWP.seqk fun K14 hK14 => ?_
      refine AWP.region ?_
      refine AOPS.runk 1 (by simp (disch := first|omega|(simp only[ln];omega)) [List.take_succ_cons, List.take_zero, idf_Wd', idf_numS, cells_numS, numS_fold, h5]; rfl) ?_
      simp only [List.drop_succ_cons, List.drop_zero]
      refine AOPS.frz1 44 (m + 1) 1 (wd .u32 (leftL d q (2 ^ k))) (Wd .u32 (leftL d q (2 ^ k))) (by simp [leftL, hc, wrap_u32m, ht, hm2, hH]) (by simp [h5, r1]; first | exact fz_wd (by simp [leftL, hc, r1]; try omega) | exact isl_take_wd (by simp [leftL, hc, r1]; try omega)) ?_
      refine AOPS.fcall (l1Trim_fc false (leftL d q (2 ^ k)) (by omega) hls.1) rfl rfl rfl hb195 (by simp) (by simp) (by simp) ?_
      simp only [puts_some]
      refine AOPS.opval (Wd .u32 (dg (sg false (val 4294967296 (leftL d q (2 ^ k)))))) (fld_numS _) (by simp) (by simp) ?_
      simp only [puts_some]
      refine AOPS.all (by simp; rfl) ?_
      refine hK14 _ ?_
      refine AWP.ret ?_
      exact hK _ _ _ _ trivial ((Fin.mk (r := Wd .u32 (dg (sg false (val 4294967296 (leftL d q (2 ^ k)))))) (by simp [aRes, aResL, aRes1])).cast (by rw [sg_false, hls.2.2]))
    · try simp only [decide_eq_true_eq, decide_eq_false_iff_not] at h38
      have hc : ¬ 0 < (leftR d (2 ^ k) d.length).2 := by omega
      have hm2 : True := trivial
      refine AWP.skip ?_
      refine hK12 _ ?_
      refine AWP.seqk fun K15 hK15 => ?_
      refine AWP.region ?_
      refine AOPS.runk 1 (by simp (disch := first|omega|(simp only[ln];omega)) [List.take_succ_cons, List.take_zero, idf_Wd', idf_numS, cells_numS, numS_fold, h5]; rfl) ?_
      simp only [List.drop_succ_cons, List.drop_zero]
      refine AOPS.frz1 44 (id) 1 (wd .u32 (leftL d q (2 ^ k))) (Wd .u32 (leftL d q (2 ^ k))) (by simp [leftL, hc, wrap_u32m, ht, hm2, hH]) (by simp [h5, r1]; first | exact fz_wd (by simp [leftL, hc, r1]; try omega) | exact isl_take_wd (by simp [leftL, hc, r1]; try omega)) ?_
      refine AOPS.fcall (l1Trim_fc false (leftL d q (2 ^ k)) (by omega) hls.1) rfl rfl rfl hb195 (by simp) (by simp) (by simp) ?_
      simp only [puts_some]
      refine AOPS.opval (Wd .u32 (dg (sg false (val 4294967296 (leftL d q (2 ^ k)))))) (fld_numS _) (by simp) (by simp) ?_
      simp only [puts_some]
      refine AOPS.all (by simp; rfl) ?_
      refine hK15 _ ?_
      refine AWP.ret ?_
      exact hK _ _ _ _ trivial ((Fin.mk (r := Wd .u32 (dg (sg false (val 4294967296 (leftL d q (2 ^ k)))))) (by simp [aRes, aResL, aRes1])).cast (by rw [sg_false, hls.2.2]))

set_option maxHeartbeats 2000000 in
theorem l1From_fc (w3 w2 w1 w0 : Int) (h3 : U64 w3) (h2 : U64 w2) (h1 : U64 w1) (h0 : U64 w0) : FC Try.prog 170 [wdI w3 w2 w1 w0] (numS (sval w3 w2 w1 w0)) := by
  refine FC.body Try.func170 rfl (by simp [idfL, idf, wdI]) (by simp [idfL, idf, idfLL_iff, idf_Wd', idf_numS, cells_numS, numS_fold]) 47 rfl fun nx K hK => ?_
  unfold wdI
  unfold U64 at h0 h1 h2 h3
  have hd8 := dig8 h0 h1 h2 h3
  have hv8 := val8 w3 w2 w1 w0
  refine AWP.seqk fun K1 hK1 => ?_
  refine AWP.region (AOPS.all (by simp (disch := first|omega|(simp only[ln];omega)) [idf_Wd', idf_numS, cells_numS, numS_fold]; rfl) ?_)
  refine hK1 _ ?_
  refine AWP.seqk fun K2 hK2 => ?_
  refine AWP.region (AOPS.all (by simp (disch := first|omega|(simp only[ln];omega)) [idf_Wd', idf_numS, cells_numS, numS_fold, IntKind.bits, Int.fdiv_eq_ediv_of_nonneg]; rfl) ?_)
  refine hK2 _ ?_
  refine AWP.seqk fun K3 hK3 => ?_
  refine AWP.region (AOPS.all (by simp (disch := first|omega|(simp only[ln];omega)) [idf_Wd', idf_numS, cells_numS, numS_fold, IntKind.bits, Int.fdiv_eq_ediv_of_nonneg, wrap_u32m]; rfl) ?_)
  refine hK3 _ ?_
  refine AWP.seqk fun K4 hK4 => ?_
  refine AWP.seqk fun K5 hK5 => ?_
  refine AWP.region (AOPS.all (by simp (disch := first|omega|(simp only[ln];omega)) [idf_Wd', idf_numS, cells_numS, numS_fold]; rfl) ?_)
  refine hK5 _ ?_
  refine cond_ok (!(w3 / 9223372036854775808 == 1)) (by simp (disch := first|omega|(simp only[ln];omega))) (fun h39 => ?_) (fun h39 => ?_)
  · try simp only [decide_eq_true_eq, decide_eq_false_iff_not] at h39
    have hs : w3 < 9223372036854775808 := by simp at h39; omega
    refine AWP.seqk fun K6 hK6 => ?_
    refine AWP.region ?_
    refine AOPS.runk 1 (by simp (disch := first|omega|(simp only[ln];omega)) [List.take_succ_cons, List.take_zero, idf_Wd', idf_numS, cells_numS, numS_fold]; rfl) ?_
    simp only [List.drop_succ_cons, List.drop_zero]
    refine AOPS.frz1 40 (nx + 1 + 1) 1 (wd .u32 (row8 w3 w2 w1 w0)) (Wd .u32 (row8 w3 w2 w1 w0)) (by simp [row8]) (by simp; first | exact fz_wd rfl | exact isl_take_wd (by simp [row8])) ?_
    refine AOPS.fcall (l1Trim_fc false (row8 w3 w2 w1 w0) (by simp [row8]) hd8) rfl rfl rfl hb195 (by simp (disch := first|omega|(simp only[ln];omega)) [idf_Wd', idf_numS, cells_numS, numS_fold]) (by simp (disch := first|omega|(simp only[ln];omega))) (by simp) ?_
    simp only [puts_some, updo]
    refine AOPS.all (by simp (disch := first|omega|(simp only[ln];omega)) [idf_Wd', idf_numS, cells_numS, numS_fold]; rfl) ?_
    refine hK6 _ ?_
    refine AWP.ret ?_
    exact hK _ _ _ _ trivial ((Fin.mk (r := numS (sg false (val 4294967296 (row8 w3 w2 w1 w0)))) (by simp [aRes, aResL, aRes1, idf_Wd', idf_numS, cells_numS, numS_fold])).cast (by rw [sg_false, hv8, sval, if_pos hs]))
  · try simp only [decide_eq_true_eq, decide_eq_false_iff_not] at h39
    have hs : ¬ w3 < 9223372036854775808 := by simp at h39; omega
    have hu : 0 ≤ uval w3 w2 w1 w0 ∧ uval w3 w2 w1 w0 < 115792089237316195423570985008687907853269984665640564039457584007913129639936 := by unfold uval; omega
    have hP : (4294967296 : Int) ^ 8 * (val 4294967296 [1] * 2 ^ 0) = 115792089237316195423570985008687907853269984665640564039457584007913129639936 := by simp [val]
    have hsu := subS_spec (dg_dig ((4294967296 : Int) ^ 8 * (val 4294967296 [1] * 2 ^ 0))) hd8 (by rw [hP]; exact row8_len _ _ _ _) (by rw [dg_val, hP, hv8]; omega)
    rw [dg_val, hP, hv8] at hsu
    refine AWP.skip ?_
    refine hK4 _ ?_
    refine AWP.seqk fun K7 hK7 => ?_
    refine AWP.region ?_
    refine AOPS.runk 1 (by simp (disch := first|omega|(simp only[ln];omega)) [List.take_succ_cons, List.take_zero, idf_Wd', idf_numS, cells_numS, numS_fold]; rfl) ?_
    simp only [List.drop_succ_cons, List.drop_zero]
    refine AOPS.frz1 42 (nx + 1 + 1 + 1) 1 (wd .u32 [1]) (Wd .u32 [1]) (by simp) (by simp; first | exact fz_wd rfl | exact isl_take_wd (by simp)) ?_
    refine AOPS.fcall (l1Left_fc [1] (Dig.cons (by omega) (by omega) (Dig.nil _)) 8 0 (by omega) (by omega) (by simp)) rfl rfl rfl hb210 (by simp (disch := first|omega|(simp only[ln];omega)) [idf_Wd', idf_numS, cells_numS, numS_fold]) (by simp (disch := first|omega|(simp only[ln];omega))) (by simp) ?_
    simp only [puts_some, updo]
    refine AOPS.runk 1 (by simp (disch := first|omega|(simp only[ln];omega)) [List.take_succ_cons, List.take_zero, idf_Wd', idf_numS, cells_numS, numS_fold]; rfl) ?_
    simp only [List.drop_succ_cons, List.drop_zero]
    refine AOPS.frz1 44 (nx + 1 + 1) 1 (wd .u32 (row8 w3 w2 w1 w0)) (Wd .u32 (row8 w3 w2 w1 w0)) (by simp [row8]) (by simp; first | exact fz_wd rfl | exact isl_take_wd (by simp [row8])) ?_
    refine AOPS.fcall (l1SubAbs_fc (dg ((4294967296 : Int) ^ 8 * (val 4294967296 [1] * 2 ^ 0))) (row8 w3 w2 w1 w0) (by rw [hP]; exact Nat.le_trans (row8_top) (by omega)) (dg_dig _) hd8) rfl rfl rfl hb198 (by simp (disch := first|omega|(simp only[ln];omega)) [idf_Wd', idf_numS, cells_numS, numS_fold]) (by simp (disch := first|omega|(simp only[ln];omega))) (by simp) ?_
    simp only [puts_some, updo]
    refine AOPS.fcall (l1Trim_fc true (subS (dg ((4294967296 : Int) ^ 8 * (val 4294967296 [1] * 2 ^ 0))) (row8 w3 w2 w1 w0)) (by rw [hP, hsu.2.1]; exact Nat.le_trans (row8_top) (by omega)) (by rw [hP]; exact hsu.1)) rfl rfl rfl hb195 (by simp (disch := first|omega|(simp only[ln];omega)) [idf_Wd', idf_numS, cells_numS, numS_fold]) (by simp (disch := first|omega|(simp only[ln];omega))) (by simp) ?_
    simp only [puts_some, updo]
    refine AOPS.all (by simp (disch := first|omega|(simp only[ln];omega)) [idf_Wd', idf_numS, cells_numS, numS_fold]; rfl) ?_
    refine hK7 _ ?_
    refine AWP.ret ?_
    exact hK _ _ _ _ trivial ((Fin.mk (r := numS (sg true (val 4294967296 (subS (dg ((4294967296 : Int) ^ 8 * (val 4294967296 [1] * 2 ^ 0))) (row8 w3 w2 w1 w0))))) (by simp [aRes, aResL, aRes1, idf_Wd', idf_numS, cells_numS, numS_fold])).cast (by rw [sg_true, hP, hsu.2.2, sval, if_neg hs]; congr 1; omega))

end Go.Proofs.Ytmaebeknmiomnaa

/- Walks: the reference's numbers told in 256 bits. -/
namespace Go.Proofs.Ytmaebeknmiomnaa
open Go Go.RowKit
set_option linter.unusedSimpArgs false
set_option linter.unusedVariables false
set_option maxRecDepth 100000
attribute [local simp] List.getElem?_cons_zero List.getElem?_cons_succ List.getElem?_toArray runOps stepOp.eq_def agd.eq_def dstOk.eq_def opVal.eq_def opNew.eq_def opSto.eq_def ev.eq_def cv.eq_def puts_some puts_none upd_ap lst.eq_def aBin.eq_def aUn.eq_def aBi_str aBi_isl aBi_osl aBi_nsl aBi_max aBi_min aBi_max3 aConv.eq_def aLd.eq_def aLoad.eq_def aField.eq_def aFld.eq_def aIdx_isl aIdx_osl aSlc_isl aSlc_osl aSlc_str aSlc_nsl bnd.eq_def evs_nil evs_cons aBuild.eq_def aFill splice.eq_def cells_agg cells_int cells_bool cells_str cells_nil cells_nsl cells_isl cells_osl cells_ptr cells_ip cells_fn cells_Wd one_int one_bool one_str one_nil one_nsl one_isl one_osl one_ptr one_ip one_fn one_Wd aSets hupd_eq hupd_ne wrap_i64s wrap_u64s wrap_u32s wrap_u8s wd_getD wd_set wd_len wd_replicate wd_one wd_fold fz_osl hupd_same aSix.eq_def aEqS.eq_def aEqB_bool aEqB_nsl aEqB_nil
attribute [local simp] szT2 byT2 agT2 unT2 zoT2 szT3 byT3 agT3 unT3 zoT3 szT4 byT4 agT4 unT4 zoT4 szT24 byT24 agT24 unT24 zoT24 szT26 byT26 agT26 flT26 fdT26_0 fdT26_1 fdT26_2 fdT26_3 zoT26 szT111 byT111 agT111 elT111 unT111 zoT111 szT113 byT113 agT113 flT113 fdT113_0 fdT113_1 zoT113 szT117 byT117 agT117 elT117 unT117 zoT117 szT225 byT225 agT225 unT225 zoT225

theorem wdZ_8 {z a b c d : Int} (ha : U64 a) (hb : U64 b) (hc : U64 c) (hd : U64 d) (h : modW z = uval a b c d) : wdZ z = wdI a b c d := by
  unfold wdZ wdI
  rw [h]
  unfold uval
  unfold U64 at *
  congr 1
  congr 1
  · congr 1; omega
  congr 1
  · congr 1; omega
  congr 1
  · congr 1; omega
  congr 1
  · congr 1; omega
theorem left255 : FC Try.prog 210 [Wd .u32 [1], .int .i64 255] (Wd .u32 (dg 57896044618658097711785492504343953926634992332820282019728792003956564819968)) := by
  have h := l1Left_fc [1] (Dig.cons (by omega) (by omega) (Dig.nil _)) 7 31 (by omega) (by omega) (by simp)
  have e : (4294967296 : Int) ^ 7 * (val 4294967296 [1] * 2 ^ 31) = 57896044618658097711785492504343953926634992332820282019728792003956564819968 := by simp [val]
  rw [e] at h; exact h
theorem left256 : FC Try.prog 210 [Wd .u32 [1], .int .i64 256] (Wd .u32 (dg 115792089237316195423570985008687907853269984665640564039457584007913129639936)) := by
  have h := l1Left_fc [1] (Dig.cons (by omega) (by omega) (Dig.nil _)) 8 0 (by omega) (by omega) (by simp)
  have e : (4294967296 : Int) ^ 8 * (val 4294967296 [1] * 2 ^ 0) = 115792089237316195423570985008687907853269984665640564039457584007913129639936 := by simp [val]
  rw [e] at h; exact h

set_option maxHeartbeats 2000000 in
theorem l1Wide_fc {k : Nat} {z : Int} (hz : Bg k z) (hk : k ≤ 68719476736) : FC Try.prog 192 [numS z] (.tup [wdT z, .bool (fits z)]) := by
  have lz : (dg z).length ≤ 137438953472 := by have := hz.len32; omega
  refine FC.body Try.func192 rfl (by simp [idfL, idf, idfLL_iff, idf_Wd', idf_numS, cells_numS, numS_fold]) (by simp [idfL, idf, idf_wdT]) 77 rfl fun nx K hK => ?_
  refine AWP.seqk fun K1 hK1 => ?_
  refine AWP.region (AOPS.all (by simp (disch := first|omega|(simp only[ln];omega)) [idf_Wd', idf_numS, cells_numS, numS_fold]; rfl) ?_)
  refine hK1 _ ?_
  refine AWP.seqk fun K2 hK2 => ?_
  refine AWP.region (AOPS.all (by simp (disch := first|omega|(simp only[ln];omega)) [idf_Wd', idf_numS, cells_numS, numS_fold]; rfl) ?_)
  refine hK2 _ ?_
  refine AWP.seqk fun K3 hK3 => ?_
  have J3 : ∀ s : St, (∃ D : List Int, s.env 2 = .ptr (nx + 1) 0 0 ∧ s.env 4 = Wd .u32 D ∧ s.heap (nx + 1) = some (4, [[.int .u64 0, .int .u64 0, .int .u64 0, .int .u64 0]]) ∧ nx + 1 < s.nx ∧ Dig 4294967296 D ∧ D.length ≤ 137438953472 ∧ val 4294967296 D = modW z ∧ fits z = true ∧ s.nt = 77) → K3 s := by
    rintro ⟨e, H, m, nt⟩ ⟨D, h2, h4, hB, hm, dD, lD, vD, hf, rfl⟩
    simp only [] at h2 h4 hB hm
    refine hK3 _ ?_
    refine AWP.seqk fun K4 hK4 => ?_
    refine AWP.region (AOPS.all (by simp (disch := first|omega|(simp only[ln];omega)) [if_pos, idf_Wd', idf_numS, cells_numS, numS_fold]; rfl) ?_)
    refine hK4 _ ?_
    refine AWP.seqk fun K5 hK5 => ?_
    refine AWP.seqk fun K6 hK6 => ?_
    refine AWP.region (AOPS.all (by simp (disch := first|omega|(simp only[ln];omega)) [idf_Wd', idf_numS, cells_numS, numS_fold]; rfl) ?_)
    refine hK6 _ ?_
    refine AWP.block ?_
    refine AWP.loop (fun n s => ∃ i out, n = 8 - i ∧ i ≤ 8 ∧ out.length = 8 ∧ (∀ j, j < 8 → gt out j = if j < i then gt D j else 0) ∧ s.env 2 = .ptr (nx + 1) 0 0 ∧ s.env 4 = Wd .u32 D ∧ s.env 5 = .osl m 0 8 ∧ s.env 6 = .int .i64 (i : Int) ∧ s.heap (nx + 1) = some (4, [[.int .u64 0, .int .u64 0, .int .u64 0, .int .u64 0]]) ∧ s.heap m = some (1, wd .u64 out) ∧ s.nt = 77) (8) (⟨0, List.replicate 8 0, by omega, by omega, rfl, by intro j hj; rw [if_neg (Nat.not_lt_zero j)]; simp only [gt, List.getElem?_replicate]; split <;> rfl, by simp [h2], by simp [h4], by simp, by simp, by simp (disch := omega) [hB], by simp, rfl⟩) ?_
    clear h2 h4 hB
    rintro n ⟨e, H, m3, nt⟩ ⟨i, out, rfl, hi, ho, hg, h2, h4, h5, h6, hB, hC, rfl⟩
    simp only [] at h2 h4 h5 h6 hB hC
    refine AWP.seqk fun K7 hK7 => ?_
    refine AWP.seqk fun K8 hK8 => ?_
    by_cases hi8 : i < 8
    · have c8 : decide ((i : Int) < 8) = true := by simp; omega
      refine AWP.region (AOPS.all (by simp (disch := first|omega|(simp only[ln];omega)) [len_Wd (P := Try.prog) #[111] rfl elT111, idf_Wd', idf_numS, cells_numS, numS_fold, h4, h6, c8]; rfl) ?_)
      refine hK8 _ ?_
      refine cond_ok _ (by simp (disch := first|omega|(simp only[ln];omega)); rfl) (fun h33 => ?_) (fun h33 => ?_)
      · try simp only [decide_eq_true_eq, decide_eq_false_iff_not] at h33
        have hl : i < D.length := by omega
        have hgD := dD.gt (by omega) i
        refine AWP.skip ?_
        refine hK7 _ ?_
        refine AWP.seqk fun K9 hK9 => ?_
        refine AWP.block ?_
        refine AWP.region (AOPS.all (by simp (disch := first|omega|(simp only[ln];omega)) [idx_WdD (P := Try.prog) elT111 szT225, idx_WdD (P := Try.prog) elT117 szT24, if_pos, idf_Wd', idf_numS, cells_numS, numS_fold, h4, h5, h6, hC, ho, ld_ip agT225, ld_ip agT24]; rfl) ?_)
        refine hK9 _ ?_
        refine AWP.region (AOPS.all (by simp (disch := first|omega|(simp only[ln];omega)) [idf_Wd', idf_numS, cells_numS, numS_fold, h6]; rfl) ?_)
        refine ⟨8 - (i + 1), by omega, i + 1, out.set i (gt D i), rfl, by omega, by simp [ho], ?_, by simp [h2], by simp [h4], by simp [h5], by simp (disch := omega) [h6], by simp (disch := omega) [hB], by simp, rfl⟩
        intro j hj
        by_cases hji : j = i
        · subst hji; rw [gt_set (by omega)]; simp
        · rw [gt_set_ne (Ne.symm hji), hg _ hj]
          by_cases hlt : j < i
          · rw [if_pos hlt, if_pos (by omega)]
          · rw [if_neg hlt, if_neg (by omega)]
      · try simp only [decide_eq_true_eq, decide_eq_false_iff_not] at h33
        have hall : ∀ j, j < 8 → gt out j = gt D j := fun j hj => by
          rw [hg j hj]
          split
          · rfl
          · rw [gt_ge (by omega)]
        refine AWP.exit ?_
        refine hK5 _ ?_
        refine AWP.seqk fun K10 hK10 => ?_
        have g0 := dD.gt (by omega) 0
        have g1 := dD.gt (by omega) 1
        have g2 := dD.gt (by omega) 2
        have g3 := dD.gt (by omega) 3
        have g4 := dD.gt (by omega) 4
        have g5 := dD.gt (by omega) 5
        have g6 := dD.gt (by omega) 6
        have g7 := dD.gt (by omega) 7
        refine AWP.drawF 33 Try.checked.mixed (by kernel_rfl) (by simp (disch := first|omega|(simp only[ln];omega)) [runDf.eq_def, runF1, runF2, stepF.eq_def, updo.eq_def, hupo.eq_def, opSto1.eq_def, idx_WdD (P := Try.prog) elT117 szT24, if_pos, idf_Wd', idf_numS, cells_numS, numS_fold, h2, h5, hB, hC, ho, hall 0 (by omega), hall 1 (by omega), hall 2 (by omega), hall 3 (by omega), hall 4 (by omega), hall 5 (by omega), hall 6 (by omega), hall 7 (by omega), IntKind.bits, or_join2 g6.1 g6.2 g7.1 g7.2, or_join2 g4.1 g4.2 g5.1 g5.2, or_join2 g2.1 g2.2 g3.1 g3.2, or_join2 g0.1 g0.2 g1.1 g1.2, ld_ip agT24]; rfl) ?_
        refine hK10 _ ?_
        refine AWP.ret ?_
        exact hK _ _ _ _ trivial ((Fin.mk (by simp (disch := omega) [aRes, aResL, aRes1, h2, idf_Wd', idf_numS, cells_numS, numS_fold]; rfl)).cast (by
          have h8 := val_8 dD (by rw [vD]; unfold modW; omega)
          rw [vD] at h8
          simp only [wdT, hf, if_true]
          rw [wdZ_8 ⟨by omega, by omega⟩ ⟨by omega, by omega⟩ ⟨by omega, by omega⟩ ⟨by omega, by omega⟩ h8]; simp [wdI]))
    · have c8 : decide ((i : Int) < 8) = false := by simp; omega
      refine AWP.region (AOPS.all (by simp (disch := first|omega|(simp only[ln];omega)) [len_Wd (P := Try.prog) #[111] rfl elT111, idf_Wd', idf_numS, cells_numS, numS_fold, h4, h6, c8]; rfl) ?_)
      refine hK8 _ ?_
      refine cond_ok _ (by simp (disch := first|omega|(simp only[ln];omega)); rfl) (fun h33 => ?_) (fun h33 => ?_)
      · simp at h33
      · try simp only [decide_eq_true_eq, decide_eq_false_iff_not] at h33
        have hall : ∀ j, j < 8 → gt out j = gt D j := fun j hj => by
          rw [hg j hj, if_pos (by omega)]
        refine AWP.exit ?_
        refine hK5 _ ?_
        refine AWP.seqk fun K11 hK11 => ?_
        have g0 := dD.gt (by omega) 0
        have g1 := dD.gt (by omega) 1
        have g2 := dD.gt (by omega) 2
        have g3 := dD.gt (by omega) 3
        have g4 := dD.gt (by omega) 4
        have g5 := dD.gt (by omega) 5
        have g6 := dD.gt (by omega) 6
        have g7 := dD.gt (by omega) 7
        refine AWP.drawF 33 Try.checked.mixed (by kernel_rfl) (by simp (disch := first|omega|(simp only[ln];omega)) [runDf.eq_def, runF1, runF2, stepF.eq_def, updo.eq_def, hupo.eq_def, opSto1.eq_def, idx_WdD (P := Try.prog) elT117 szT24, if_pos, idf_Wd', idf_numS, cells_numS, numS_fold, h2, h5, hB, hC, ho, hall 0 (by omega), hall 1 (by omega), hall 2 (by omega), hall 3 (by omega), hall 4 (by omega), hall 5 (by omega), hall 6 (by omega), hall 7 (by omega), IntKind.bits, or_join2 g6.1 g6.2 g7.1 g7.2, or_join2 g4.1 g4.2 g5.1 g5.2, or_join2 g2.1 g2.2 g3.1 g3.2, or_join2 g0.1 g0.2 g1.1 g1.2, ld_ip agT24]; rfl) ?_
        refine hK11 _ ?_
        refine AWP.ret ?_
        exact hK _ _ _ _ trivial ((Fin.mk (by simp (disch := omega) [aRes, aResL, aRes1, h2, idf_Wd', idf_numS, cells_numS, numS_fold]; rfl)).cast (by
          have h8 := val_8 dD (by rw [vD]; unfold modW; omega)
          rw [vD] at h8
          simp only [wdT, hf, if_true]
          rw [wdZ_8 ⟨by omega, by omega⟩ ⟨by omega, by omega⟩ ⟨by omega, by omega⟩ ⟨by omega, by omega⟩ h8]; simp [wdI]))
  refine AWP.seqk fun K12 hK12 => ?_
  refine AWP.region (AOPS.all (by simp (disch := first|omega|(simp only[ln];omega)) [idf_Wd', idf_numS, cells_numS, numS_fold]; rfl) ?_)
  refine hK12 _ ?_
  refine cond_ok _ (by simp (disch := first|omega|(simp only[ln];omega)); rfl) (fun h10 => ?_) (fun h10 => ?_)
  · try simp only [decide_eq_true_eq, decide_eq_false_iff_not] at h10
    have hzn : z < 0 := by simpa using h10
    refine AWP.seqk fun K13 hK13 => ?_
    refine AWP.seqk fun K14 hK14 => ?_
    refine AWP.region ?_
    refine AOPS.runk 2 (by simp (disch := first|omega|(simp only[ln];omega)) [List.take_succ_cons, List.take_zero, idf_Wd', idf_numS, cells_numS, numS_fold]; rfl) ?_
    simp only [List.drop_succ_cons, List.drop_zero]
    refine AOPS.frz1 12 (nx + 1 + 1) 1 (wd .u32 [1]) (Wd .u32 [1]) (by simp) (by simp; first | exact fz_wd rfl | exact isl_take_wd (by simp)) ?_
    refine AOPS.fcall (left255) rfl rfl rfl hb210 (by simp (disch := first|omega|(simp only[ln];omega)) [idf_Wd', idf_numS, cells_numS, numS_fold]) (by simp (disch := first|omega|(simp only[ln];omega))) (by simp) ?_
    simp only [puts_some, updo]
    refine AOPS.fcall (l1CmpAbs_fc (dg z) (dg 57896044618658097711785492504343953926634992332820282019728792003956564819968) (by omega) (by exact Nat.le_trans row7_top (by omega))) rfl rfl rfl hb197 (by simp (disch := first|omega|(simp only[ln];omega)) [idf_Wd', idf_numS, cells_numS, numS_fold]) (by simp (disch := first|omega|(simp only[ln];omega))) (by simp) ?_
    simp only [puts_some, updo]
    refine AOPS.all (by simp (disch := first|omega|(simp only[ln];omega)) [idf_Wd', idf_numS, cells_numS, numS_fold]; rfl) ?_
    refine hK14 _ ?_
    refine cond_ok _ (by simp (disch := first|omega|(simp only[ln];omega)); rfl) (fun h15 => ?_) (fun h15 => ?_)
    · try simp only [decide_eq_true_eq, decide_eq_false_iff_not] at h15
      have hf : fits z = false := by
        have := cmpS_dg z 57896044618658097711785492504343953926634992332820282019728792003956564819968
        unfold fits; simp; omega
      refine AWP.seqk fun K15 hK15 => ?_
      refine AWP.region (AOPS.all (by simp (disch := first|omega|(simp only[ln];omega)) [idf_Wd', idf_numS, cells_numS, numS_fold]; rfl) ?_)
      refine hK15 _ ?_
      refine AWP.ret ?_
      exact hK _ _ _ _ trivial ((Fin.mk (by simp (disch := omega) [aRes, aResL, aRes1, idf_Wd', idf_numS, cells_numS, numS_fold]; rfl)).cast (by simp [wdT, hf, wdI]))
    · try simp only [decide_eq_true_eq, decide_eq_false_iff_not] at h15
      have hle : z.natAbs ≤ 57896044618658097711785492504343953926634992332820282019728792003956564819968 := by
        have := cmpS_dg z 57896044618658097711785492504343953926634992332820282019728792003956564819968
        omega
      have hsu := subS_dg (a := 115792089237316195423570985008687907853269984665640564039457584007913129639936) (b := z) (by omega)
      refine AWP.skip ?_
      refine hK13 _ ?_
      refine AWP.region ?_
      refine AOPS.runk 1 (by simp (disch := first|omega|(simp only[ln];omega)) [List.take_succ_cons, List.take_zero, idf_Wd', idf_numS, cells_numS, numS_fold]; rfl) ?_
      simp only [List.drop_succ_cons, List.drop_zero]
      refine AOPS.frz1 17 (nx + 1 + 1 + 1) 1 (wd .u32 [1]) (Wd .u32 [1]) (by simp) (by simp; first | exact fz_wd rfl | exact isl_take_wd (by simp)) ?_
      refine AOPS.fcall (left256) rfl rfl rfl hb210 (by simp (disch := first|omega|(simp only[ln];omega)) [idf_Wd', idf_numS, cells_numS, numS_fold]) (by simp (disch := first|omega|(simp only[ln];omega))) (by simp) ?_
      simp only [puts_some, updo]
      refine AOPS.runk 1 (by simp (disch := first|omega|(simp only[ln];omega)) [List.take_succ_cons, List.take_zero, idf_Wd', idf_numS, cells_numS, numS_fold]; rfl) ?_
      simp only [List.drop_succ_cons, List.drop_zero]
      refine AOPS.fcall (l1SubAbs_fc (dg 115792089237316195423570985008687907853269984665640564039457584007913129639936) (dg z) (by exact Nat.le_trans row8_top (by omega)) (dg_dig _) (dg_dig _)) rfl rfl rfl hb198 (by simp (disch := first|omega|(simp only[ln];omega)) [idf_Wd', idf_numS, cells_numS, numS_fold]) (by simp (disch := first|omega|(simp only[ln];omega))) (by simp) ?_
      simp only [puts_some, updo]
      refine AOPS.all (by simp (disch := first|omega|(simp only[ln];omega)) [idf_Wd', idf_numS, cells_numS, numS_fold]; rfl) ?_
      refine J3 _ ?_
      exact ⟨_, by simp, by simp; rfl, by simp, by simp, by exact hsu.1, by rw [hsu.2.1]; exact Nat.le_trans row8_top (by omega), by rw [hsu.2.2]; unfold modW; omega, by unfold fits; simp; omega, rfl⟩
  · try simp only [decide_eq_true_eq, decide_eq_false_iff_not] at h10
    have hzn : ¬ z < 0 := by simpa using h10
    refine AWP.seqk fun K16 hK16 => ?_
    refine AWP.region ?_
    refine AOPS.runk 1 (by simp (disch := first|omega|(simp only[ln];omega)) [List.take_succ_cons, List.take_zero, idf_Wd', idf_numS, cells_numS, numS_fold]; rfl) ?_
    simp only [List.drop_succ_cons, List.drop_zero]
    refine AOPS.fcall (l1Bits_fc hz (by omega)) rfl rfl rfl hb211 (by simp (disch := first|omega|(simp only[ln];omega)) [idf_Wd', idf_numS, cells_numS, numS_fold]) (by simp (disch := first|omega|(simp only[ln];omega))) (by simp) ?_
    simp only [puts_some, updo]
    refine AOPS.all (by simp (disch := first|omega|(simp only[ln];omega)) [idf_Wd', idf_numS, cells_numS, numS_fold]; rfl) ?_
    refine hK16 _ ?_
    refine cond_ok _ (by simp (disch := first|omega|(simp only[ln];omega)); rfl) (fun h23 => ?_) (fun h23 => ?_)
    · try simp only [decide_eq_true_eq, decide_eq_false_iff_not] at h23
      have hf : fits z = false := by
        cases h : fits z with
        | false => rfl
        | true =>
          have := fits_iff.mpr h
          rw [if_neg hzn] at this; omega
      refine AWP.seqk fun K17 hK17 => ?_
      refine AWP.region (AOPS.all (by simp (disch := first|omega|(simp only[ln];omega)) [idf_Wd', idf_numS, cells_numS, numS_fold]; rfl) ?_)
      refine hK17 _ ?_
      refine AWP.ret ?_
      exact hK _ _ _ _ trivial ((Fin.mk (by simp (disch := omega) [aRes, aResL, aRes1, idf_Wd', idf_numS, cells_numS, numS_fold]; rfl)).cast (by simp [wdT, hf, wdI]))
    · try simp only [decide_eq_true_eq, decide_eq_false_iff_not] at h23
      have hf : fits z = true := fits_iff.mp (by rw [if_neg hzn]; omega)
      refine AWP.skip ?_
      refine J3 _ ?_
      exact ⟨dg z, by simp, by simp, by simp, by simp, dg_dig z, lz, by rw [dg_val]; unfold modW; have h := hf; unfold fits at h; simp at h; omega, hf, rfl⟩

end Go.Proofs.Ytmaebeknmiomnaa

/- Walks: the reference's divisions. -/
namespace Go.Proofs.Ytmaebeknmiomnaa
open Go Go.RowKit
set_option linter.unusedSimpArgs false
set_option linter.unusedVariables false
set_option maxRecDepth 100000
attribute [local simp] List.getElem?_cons_zero List.getElem?_cons_succ List.getElem?_toArray runOps stepOp.eq_def agd.eq_def dstOk.eq_def opVal.eq_def opNew.eq_def opSto.eq_def ev.eq_def cv.eq_def puts_some puts_none upd_ap lst.eq_def aBin.eq_def aUn.eq_def aBi_str aBi_isl aBi_osl aBi_nsl aBi_max aBi_min aBi_max3 aConv.eq_def aLd.eq_def aLoad.eq_def aField.eq_def aFld.eq_def aIdx_isl aIdx_osl aSlc_isl aSlc_osl aSlc_str aSlc_nsl bnd.eq_def evs_nil evs_cons aBuild.eq_def aFill splice.eq_def cells_agg cells_int cells_bool cells_str cells_nil cells_nsl cells_isl cells_osl cells_ptr cells_ip cells_fn cells_Wd one_int one_bool one_str one_nil one_nsl one_isl one_osl one_ptr one_ip one_fn one_Wd aSets hupd_eq hupd_ne wrap_i64s wrap_u64s wrap_u32s wrap_u8s wd_getD wd_set wd_len wd_replicate wd_one wd_fold fz_osl hupd_same aSix.eq_def aEqS.eq_def aEqB_bool aEqB_nsl aEqB_nil
attribute [local simp] szT2 byT2 agT2 unT2 zoT2 szT3 byT3 agT3 unT3 zoT3 szT4 byT4 agT4 unT4 zoT4 szT111 byT111 agT111 elT111 unT111 zoT111 szT113 byT113 agT113 flT113 fdT113_0 fdT113_1 zoT113 szT194 byT194 agT194 unT194 zoT194 szT225 byT225 agT225 unT225 zoT225

theorem Bg.mod {j n : Nat} (h : Bg j (n : Int)) (x : Nat) (hn : n ≠ 0) : Bg j ((x % n : Nat) : Int) := by
  unfold Bg at *
  rw [Int.natAbs_natCast] at *
  have := Nat.mod_lt x (Nat.pos_of_ne_zero hn)
  omega
theorem sbound {a d N k j : Nat} (hd : d ≠ 0) (hna : bitLen a ≤ 64 * j) (hN : bitLen a = bitLen d + N) (hk : k ≤ N) : Bg j ((d * 2 ^ k : Nat) : Int) := by
  unfold Bg
  simp only [Int.natAbs_natCast]
  have h1 : d < 2 ^ bitLen d := bitLen_le.1 (Nat.le_refl _)
  have h2 : d * 2 ^ k < 2 ^ bitLen d * 2 ^ k := Nat.mul_lt_mul_of_pos_right h1 (Nat.two_pow_pos k)
  rw [← Nat.pow_add] at h2
  have h3 : (2 : Nat) ^ (bitLen d + k) ≤ 2 ^ (64 * j) := Nat.pow_le_pow_right (by omega) (by omega)
  have : (2 : Nat) ^ (64 * j) = 18446744073709551616 ^ j := by rw [Nat.pow_mul]
  omega
theorem l1LeftI (d k : Nat) (hk : k ≤ 34359738367) (hl : (dg (d : Int)).length ≤ 68719476736) : FC Try.prog 210 [Wd .u32 (dg (d : Int)), .int .i64 (k : Int)] (Wd .u32 (dg ((d * 2 ^ k : Nat) : Int))) := by
  have h := l1Left_fc (dg (d : Int)) (dg_dig _) (k / 32) (k % 32) (by omega) (by omega) hl
  rw [show 32 * (k / 32) + k % 32 = k from by omega, dg_val, Int.natAbs_natCast, shl_val] at h
  rw [Int.natCast_mul, pow2_cast]
  exact h

set_option maxHeartbeats 2000000 in
theorem l1DivAbs_fc {j : Nat} (a d : Nat) (hd : d ≠ 0) (ha : Bg j a) (hb : Bg j d) (hj : j ≤ 16777216) : FC Try.prog 212 [Wd .u32 (dg (a : Int)), Wd .u32 (dg (d : Int))] (.tup [Wd .u32 (dg ((a / d : Nat) : Int)), Wd .u32 (dg ((a % d : Nat) : Int))]) := by
  have la := ha.len32
  have lb := hb.len32
  have hna : bitLen a ≤ 64 * j := by
    rw [bitLen_le]; unfold Bg at ha
    have : (2 : Nat) ^ (64 * j) = 18446744073709551616 ^ j := by rw [Nat.pow_mul]
    rw [this]; simpa using ha
  have hnb : bitLen d ≤ 64 * j := by
    rw [bitLen_le]; unfold Bg at hb
    have : (2 : Nat) ^ (64 * j) = 18446744073709551616 ^ j := by rw [Nat.pow_mul]
    rw [this]; simpa using hb
  refine FC.body Try.func212 rfl (by simp [idfL, idf, idfLL_iff, idf_Wd', idf_numS, cells_numS, numS_fold]) (by simp [idfL, idf, idfLL_iff, idf_Wd', idf_numS, cells_numS, numS_fold]) 59 rfl fun nx K hK => ?_
  refine AWP.seqk fun K1 hK1 => ?_
  refine AWP.region (AOPS.all (by simp (disch := first|omega|(simp only[ln];omega)) [idf_Wd', idf_numS, cells_numS, numS_fold]; rfl) ?_)
  refine hK1 _ ?_
  refine AWP.seqk fun K2 hK2 => ?_
  refine AWP.region ?_
  refine AOPS.runk 1 (by simp (disch := first|omega|(simp only[ln];omega)) [List.take_succ_cons, List.take_zero, idf_Wd', idf_numS, cells_numS, numS_fold]; rfl) ?_
  simp only [List.drop_succ_cons, List.drop_zero]
  refine AOPS.fcall (l1Bits_fc ha (by omega)) rfl rfl rfl hb211 (by simp (disch := first|omega|(simp only[ln];omega)) [idf_Wd', idf_numS, cells_numS, numS_fold]) (by simp (disch := first|omega|(simp only[ln];omega))) (by simp) ?_
  simp only [puts_some, updo]
  refine AOPS.runk 1 (by simp (disch := first|omega|(simp only[ln];omega)) [List.take_succ_cons, List.take_zero, idf_Wd', idf_numS, cells_numS, numS_fold]; rfl) ?_
  simp only [List.drop_succ_cons, List.drop_zero]
  refine AOPS.fcall (l1Bits_fc hb (by omega)) rfl rfl rfl hb211 (by simp (disch := first|omega|(simp only[ln];omega)) [idf_Wd', idf_numS, cells_numS, numS_fold]) (by simp (disch := first|omega|(simp only[ln];omega))) (by simp) ?_
  simp only [puts_some, updo]
  refine AOPS.all (by simp (disch := first|omega|(simp only[ln];omega)) [idf_Wd', idf_numS, cells_numS, numS_fold]; rfl) ?_
  refine hK2 _ ?_
  refine AWP.seqk fun K3 hK3 => ?_
  refine AWP.seqk fun K4 hK4 => ?_
  refine AWP.region (AOPS.all (by simp (disch := first|omega|(simp only[ln];omega)) [idf_Wd', idf_numS, cells_numS, numS_fold]; rfl) ?_)
  refine hK4 _ ?_
  refine cond_ok _ (by simp (disch := first|omega|(simp only[ln];omega)); rfl) (fun h17 => ?_) (fun h17 => ?_)
  · try simp only [decide_eq_true_eq, decide_eq_false_iff_not] at h17
    have hlt : a < d := bitLen_lt (by omega)
    refine AWP.seqk fun K5 hK5 => ?_
    refine AWP.region (AOPS.all (by simp (disch := first|omega|(simp only[ln];omega)) [idf_Wd', idf_numS, cells_numS, numS_fold]; rfl) ?_)
    refine hK5 _ ?_
    refine AWP.ret ?_
    exact hK _ _ _ _ trivial (((Fin.mk (r := .tup [.nsl, Wd .u32 (dg (a : Int))]) (by simp [aRes, aResL, aRes1, idf_Wd', idf_numS, cells_numS, numS_fold])).weak (r' := .tup [Wd .u32 [], Wd .u32 (dg (a : Int))]) (fun _ _ _ _ h => by
      obtain ⟨vs, rfl, u, r, e, h1, h2⟩ := h
      exact ⟨vs, rfl, u, r, e, nsl_Wd .u32 h1, h2⟩)).cast (by rw [Nat.div_eq_of_lt hlt, Nat.mod_eq_of_lt hlt, show ((0 : Nat) : Int) = 0 from rfl, dg_zero]))
  · try simp only [decide_eq_true_eq, decide_eq_false_iff_not] at h17
    obtain ⟨N, hN⟩ : ∃ N, bitLen a = bitLen d + N := ⟨bitLen a - bitLen d, by omega⟩
    have hN2 : N < bitLen a := by have := bitLen_ne hd; omega
    have eN : (bitLen a : Int) - (bitLen d : Int) = N := by omega
    have hst := DvS.start hd hN
    have eq : (N : Int).tdiv 32 = ((N / 32 : Nat) : Int) := by rw [Int.tdiv_eq_ediv_of_nonneg (by omega)]; omega
    have etn : ((N : Int) / 32 + 1).toNat = N / 32 + 1 := by omega
    refine AWP.skip ?_
    refine hK3 _ ?_
    refine AWP.seqk fun K6 hK6 => ?_
    refine AWP.region (AOPS.all (by simp (disch := first|omega|(simp only[ln];omega)) [if_pos, idf_Wd', idf_numS, cells_numS, numS_fold, eN, eq]; rfl) ?_)
    refine hK6 _ ?_
    refine AWP.seqk fun K7 hK7 => ?_
    refine AWP.region (AOPS.all (by simp (disch := first|omega|(simp only[ln];omega)) [idf_Wd', idf_numS, cells_numS, numS_fold, eN]; rfl) ?_)
    refine hK7 _ ?_
    refine AWP.seqk fun K8 hK8 => ?_
    refine AWP.seqk fun K9 hK9 => ?_
    refine AWP.region (AOPS.all (by simp (disch := first|omega|(simp only[ln];omega)) [idf_Wd', idf_numS, cells_numS, numS_fold, eN]; rfl) ?_)
    refine hK9 _ ?_
    refine AWP.block ?_
    refine AWP.loop (fun n s => ∃ (i id : Nat) (q : List Int) (R : Int), n = i ∧ i ≤ N + 1 ∧ DvS a d q R i ∧ q.length = N / 32 + 1 ∧ R ≤ a ∧ s.env 1 = Wd .u32 (dg (d : Int)) ∧ s.env 7 = .osl id 0 (N / 32 + 1) ∧ s.env 8 = Wd .u32 (dg R) ∧ s.env 9 = .int .i64 ((i : Int) - 1) ∧ s.heap id = some (1, wd .u32 q) ∧ id < s.nx ∧ s.nt = 59) (N + 1) (⟨N + 1, nx, _, _, rfl, by omega, hst, by simp, by omega, by simp, by simp [etn], by simp, by simp, by simp [etn], by simp, rfl⟩) ?_
    rintro n ⟨e, H, m, nt⟩ ⟨i, id, q, R, rfl, hi, hS, hq, hR, h1, h7, h8, h9, hH, hid, rfl⟩
    simp only [] at h1 h7 h8 h9 hH hid
    have hR0 := hS.nn
    have bR : Bg j R := by unfold Bg at *; have := Int.natAbs_of_nonneg hR0; simp at ha; omega
    have lR := bR.len32
    refine AWP.seqk fun K10 hK10 => ?_
    refine AWP.seqk fun K11 hK11 => ?_
    refine AWP.region (AOPS.all (by simp (disch := first|omega|(simp only[ln];omega)) [idf_Wd', idf_numS, cells_numS, numS_fold, h9]; rfl) ?_)
    refine hK11 _ ?_
    refine cond_ok _ (by simp (disch := first|omega|(simp only[ln];omega)); rfl) (fun h26 => ?_) (fun h26 => ?_)
    · try simp only [decide_eq_true_eq, decide_eq_false_iff_not] at h26
      obtain ⟨k, rfl⟩ : ∃ k, n = k + 1 := ⟨n - 1, by omega⟩
      have e9 : ((k + 1 : Nat) : Int) - 1 = k := by omega
      rw [e9] at h9
      have eqk : (k : Int).tdiv 32 = ((k / 32 : Nat) : Int) := by rw [Int.tdiv_eq_ediv_of_nonneg (by omega)]; omega
      have eqm : (k : Int).tmod 32 = ((k % 32 : Nat) : Int) := by rw [Int.tmod_eq_emod_of_nonneg (by omega)]; omega
      have tq : ((k : Int) / 32).toNat = k / 32 := by omega
      have tm : ((k : Int) % 32).toNat = k % 32 := by omega
      have wp : IntKind.u32.wrap (2 ^ (k % 32)) = 2 ^ (k % 32) := by have := pow2_pos (k % 32); exact wrap_u32s (by omega) hS.or.2.2
      have hs := sbound hd hna hN (show k ≤ N by omega)
      have bs : Bg j ((d * 2 ^ k : Nat) : Int) := hs
      have ls := bs.len32
      have es : ((d * 2 ^ k : Nat) : Int) = (d : Int) * 2 ^ k := by rw [Int.natCast_mul, pow2_cast]
      refine AWP.skip ?_
      refine hK10 _ ?_
      refine AWP.seqk fun K12 hK12 => ?_
      refine AWP.block ?_
      refine AWP.seqk fun K13 hK13 => ?_
      refine AWP.region ?_
      refine AOPS.runk 2 (by simp (disch := first|omega|(simp only[ln];omega)) [List.take_succ_cons, List.take_zero, idf_Wd', idf_numS, cells_numS, numS_fold, h1, h9]; rfl) ?_
      simp only [List.drop_succ_cons, List.drop_zero]
      refine AOPS.fcall (l1LeftI d k (by omega) (by omega)) rfl rfl rfl hb210 (by simp (disch := first|omega|(simp only[ln];omega)) [idf_Wd', h1, h9, idf_numS, cells_numS, numS_fold]) (by simp (disch := first|omega|(simp only[ln];omega)) [h1, h9]) (by simp) ?_
      simp only [puts_some, updo]
      refine AOPS.all (by simp (disch := first|omega|(simp only[ln];omega)) [idf_Wd', idf_numS, cells_numS, numS_fold, h1, h9]; rfl) ?_
      refine hK13 _ ?_
      refine AWP.seqk fun K14 hK14 => ?_
      refine AWP.region ?_
      refine AOPS.runk 2 (by simp (disch := first|omega|(simp only[ln];omega)) [List.take_succ_cons, List.take_zero, idf_Wd', idf_numS, cells_numS, numS_fold, h8]; rfl) ?_
      simp only [List.drop_succ_cons, List.drop_zero]
      refine AOPS.fcall (l1CmpAbs_fc (dg R) (dg ((d * 2 ^ k : Nat) : Int)) (by omega) (by omega)) rfl rfl rfl hb197 (by simp (disch := first|omega|(simp only[ln];omega)) [idf_Wd', h8, idf_numS, cells_numS, numS_fold]) (by simp (disch := first|omega|(simp only[ln];omega)) [h8]) (by simp) ?_
      simp only [puts_some, updo]
      refine AOPS.all (by simp (disch := first|omega|(simp only[ln];omega)) [idf_Wd', idf_numS, cells_numS, numS_fold, h8]; rfl) ?_
      refine hK14 _ ?_
      refine cond_ok _ (by simp (disch := first|omega|(simp only[ln];omega)); rfl) (fun h35 => ?_) (fun h35 => ?_)
      · try simp only [decide_eq_true_eq, decide_eq_false_iff_not] at h35
        have hle : (d : Int) * 2 ^ k ≤ R := by
          have := cmpS_dg R ((d * 2 ^ k : Nat) : Int)
          rw [es] at this
          have hp := pow2_pos k
          have : 0 ≤ (d : Int) * 2 ^ k := Int.mul_nonneg (by omega) (by omega)
          omega
        have hsub := subS_spec (dg_dig R) (dg_dig ((d * 2 ^ k : Nat) : Int)) (dg_len_mono (by rw [es]; omega)) (by rw [dg_val, dg_val, es]; omega)
        rw [dg_val, dg_val] at hsub
        have hT := l1Trim_fc false (subS (dg R) (dg ((d * 2 ^ k : Nat) : Int))) (by omega) hsub.1
        rw [hsub.2.2, sg_false, es] at hT
        rw [show (R.natAbs : Int) - (((d : Int) * 2 ^ k).natAbs : Int) = R - (d : Int) * 2 ^ k from by omega] at hT
        refine AWP.seqk fun K15 hK15 => ?_
        refine AWP.region ?_
        refine AOPS.runk 2 (by simp (disch := first|omega|(simp only[ln];omega)) [List.take_succ_cons, List.take_zero, idf_Wd', idf_numS, cells_numS, numS_fold, h8]; rfl) ?_
        simp only [List.drop_succ_cons, List.drop_zero]
        refine AOPS.fcall (l1SubAbs_fc (dg R) (dg ((d * 2 ^ k : Nat) : Int)) (by omega) (dg_dig _) (dg_dig _)) rfl rfl rfl hb198 (by simp [h8, idf_Wd']) (by simp) (by simp) ?_
        simp only [puts_some]
        refine AOPS.fcall hT rfl rfl rfl hb195 (by simp) (by simp) (by simp) ?_
        simp only [puts_some]
        refine AOPS.opval (Wd .u32 (dg (R - (d : Int) * 2 ^ k))) (fld_numS _) (by simp) (by simp) ?_
        simp only [puts_some]
        refine AOPS.all (by simp; rfl) ?_
        refine hK15 _ ?_
        refine AWP.region (AOPS.all (by simp (disch := first|omega|(simp only[ln];omega)) [idx_WdD (P := Try.prog) elT111 szT225, if_pos, idf_Wd', idf_numS, cells_numS, numS_fold, h7, h9, hH, hq, eqk, eqm, ld_ip agT225, hS.or.1, IntKind.bits]; rfl) ?_)
        refine hK12 _ ?_
        refine AWP.region (AOPS.all (by simp (disch := first|omega|(simp only[ln];omega)) [idf_Wd', idf_numS, cells_numS, numS_fold, h9]; rfl) ?_)
        refine ⟨k, by omega, k, id, q.set (k / 32) (gt q (k / 32) + 2 ^ (k % 32)), R - (d : Int) * 2 ^ k, rfl, by omega, hS.take hle (by omega), by simp [hq], by omega, by simp [h1], by simp [h7], by simp, by simp [h9], by simp [tq, tm, wp, hS.or.1], by simpa using hid, rfl⟩
      · try simp only [decide_eq_true_eq, decide_eq_false_iff_not] at h35
        have hlt : R < (d : Int) * 2 ^ k := by
          have := cmpS_dg R ((d * 2 ^ k : Nat) : Int)
          rw [es] at this
          have hp := pow2_pos k
          have : 0 ≤ (d : Int) * 2 ^ k := Int.mul_nonneg (by omega) (by omega)
          omega
        refine AWP.skip ?_
        refine hK12 _ ?_
        refine AWP.region (AOPS.all (by simp (disch := first|omega|(simp only[ln];omega)) [idf_Wd', idf_numS, cells_numS, numS_fold, h9]; rfl) ?_)
        refine ⟨k, by omega, k, id, q, R, rfl, by omega, hS.skip hlt, hq, hR, by simp [h1], by simp [h7], by simp [h8], by simp [h9], by simp [hH], by simpa using hid, rfl⟩
    · try simp only [decide_eq_true_eq, decide_eq_false_iff_not] at h26
      obtain rfl : n = 0 := by omega
      obtain ⟨hd1, hd2⟩ := hS.done
      have hT := l1Trim_fc false q (by omega) hS.dig
      rw [sg_false, hd1] at hT
      rw [hd2] at h8
      refine AWP.exit ?_
      refine hK8 _ ?_
      refine AWP.seqk fun K16 hK16 => ?_
      refine AWP.region ?_
      refine AOPS.runk 1 (by simp (disch := first|omega|(simp only[ln];omega)) [List.take_succ_cons, List.take_zero, idf_Wd', idf_numS, cells_numS, numS_fold, h7, h8]; rfl) ?_
      simp only [List.drop_succ_cons, List.drop_zero]
      refine AOPS.frz1 55 id 1 (wd .u32 q) (Wd .u32 q) (by simp [hH]) (by simp [h7, ← hq]; first | exact fz_wd rfl | exact isl_take_wd (Nat.le_refl _)) ?_
      refine AOPS.fcall hT rfl rfl rfl hb195 (by simp) (by simp) (by simp) ?_
      simp only [puts_some]
      refine AOPS.opval (Wd .u32 (dg ((a / d : Nat) : Int))) (fld_numS _) (by simp) (by simp) ?_
      simp only [puts_some]
      refine AOPS.all (by simp (disch := first|omega|(simp only[ln];omega)) [List.take_succ_cons, List.take_zero, idf_Wd', idf_numS, cells_numS, numS_fold, h7, h8]; rfl) ?_
      refine hK16 _ ?_
      refine AWP.ret ?_
      exact hK _ _ _ _ trivial (Fin.mk (by simp (disch := first|omega|(simp only[ln];omega)) [aRes, aResL, aRes1, idf_Wd', idf_numS, cells_numS, numS_fold]))

set_option maxHeartbeats 2000000 in
theorem l1Gcd_fc {j : Nat} (a b : Int) (ha : Bg j a) (hb : Bg j b) (hj : j ≤ 16777216) : FC Try.prog 169 [numS a, numS b] (numS ((Int.gcd a b : Nat) : Int)) := by
  refine FC.body Try.func169 rfl (by simp [idfL, idf, idfLL_iff, idf_Wd', idf_numS, cells_numS, numS_fold]) (by simp [idfL, idf, idfLL_iff, idf_Wd', idf_numS, cells_numS, numS_fold]) 26 rfl fun nx K hK => ?_
  refine AWP.seqk fun K1 hK1 => ?_
  refine AWP.region (AOPS.all (by simp (disch := first|omega|(simp only[ln];omega)) [idf_Wd', idf_numS, cells_numS, numS_fold]; rfl) ?_)
  refine hK1 _ ?_
  refine AWP.seqk fun K2 hK2 => ?_
  refine AWP.region (AOPS.all (by simp (disch := first|omega|(simp only[ln];omega)) [idf_Wd', idf_numS, cells_numS, numS_fold]; rfl) ?_)
  refine hK2 _ ?_
  refine AWP.seqk fun K3 hK3 => ?_
  refine AWP.region (AOPS.all (by simp (disch := first|omega|(simp only[ln];omega)) [idf_Wd', idf_numS, cells_numS, numS_fold]; rfl) ?_)
  refine hK3 _ ?_
  refine AWP.seqk fun K4 hK4 => ?_
  refine AWP.block ?_
  refine AWP.loop (fun n s => ∃ x y : Nat, n = y ∧ Nat.gcd x y = Int.gcd a b ∧ Bg j x ∧ Bg j y ∧ s.env 4 = .ptr (nx + 1 + 1) 0 0 ∧ s.env 5 = Wd .u32 (dg (x : Int)) ∧ s.env 6 = Wd .u32 (dg (y : Int)) ∧ s.heap (nx + 1 + 1) = some (2, [[.bool false, .nsl]]) ∧ s.nt = 26) (b.natAbs) (⟨a.natAbs, b.natAbs, rfl, rfl, ha.abs, hb.abs, by simp, by simp [dg_abs], by simp [dg_abs], by simp, rfl⟩) ?_
  rintro n ⟨e, H, m, nt⟩ ⟨x, y, rfl, hg, bx, bY, h4, h5, h6, hH, rfl⟩
  simp only [] at h4 h5 h6 hH
  have lx := bx.len32
  have ly := bY.len32
  refine AWP.seqk fun K5 hK5 => ?_
  refine AWP.seqk fun K6 hK6 => ?_
  refine AWP.region (AOPS.all (by simp (disch := first|omega|(simp only[ln];omega)) [len_Wd (P := Try.prog) #[111] rfl elT111, idf_Wd', idf_numS, cells_numS, numS_fold, h6]; rfl) ?_)
  refine hK6 _ ?_
  refine cond_ok _ (by simp (disch := first|omega|(simp only[ln];omega)); rfl) (fun h15 => ?_) (fun h15 => ?_)
  · try simp only [decide_eq_true_eq, decide_eq_false_iff_not] at h15
    have hy : n ≠ 0 := fun h => by
      subst h
      simp [dg_zero] at h15
    refine AWP.skip ?_
    refine hK5 _ ?_
    refine AWP.block ?_
    refine AWP.seqk fun K7 hK7 => ?_
    refine AWP.region ?_
    refine AOPS.runk 2 (by simp (disch := first|omega|(simp only[ln];omega)) [List.take_succ_cons, List.take_zero, idf_Wd', idf_numS, cells_numS, numS_fold, h5, h6]; rfl) ?_
    simp only [List.drop_succ_cons, List.drop_zero]
    refine AOPS.fcall (l1DivAbs_fc x n hy bx bY hj) rfl rfl rfl hb212 (by simp (disch := first|omega|(simp only[ln];omega)) [idf_Wd', h5, h6, idf_numS, cells_numS, numS_fold]) (by simp (disch := first|omega|(simp only[ln];omega)) [h5, h6]) (by simp) ?_
    simp only [puts_some, updo]
    refine AOPS.all (by simp (disch := first|omega|(simp only[ln];omega)) [idf_Wd', idf_numS, cells_numS, numS_fold, h5, h6]; rfl) ?_
    refine hK7 _ ?_
    refine AWP.region (AOPS.all (by simp (disch := first|omega|(simp only[ln];omega)) [idf_Wd', idf_numS, cells_numS, numS_fold, h6]; rfl) ?_)
    refine ⟨x % n, Nat.mod_lt _ (by omega), n, x % n, rfl, by rw [← hg, Nat.gcd_comm n, ← Nat.gcd_rec, Nat.gcd_comm], bY, bY.mod x (by omega), by simp [h4], by simp [h6], by simp, by simp [hH], rfl⟩
  · try simp only [decide_eq_true_eq, decide_eq_false_iff_not] at h15
    have hy : n = 0 := by
      have : (dg (n : Int)).length = 0 := by omega
      rw [dg_len0] at this; omega
    subst hy
    rw [Nat.gcd_zero_right] at hg
    have hT := l1Trim_fc false (dg (x : Int)) (by omega) (dg_dig _)
    rw [sg_false, dg_val, Int.natAbs_natCast, hg] at hT
    rw [hg] at h5
    refine AWP.exit ?_
    refine hK4 _ ?_
    refine AWP.seqk fun K8 hK8 => ?_
    refine AWP.region ?_
    refine AOPS.runk 1 (by simp (disch := first|omega|(simp only[ln];omega)) [List.take_succ_cons, List.take_zero, idf_Wd', idf_numS, cells_numS, numS_fold, h4, h5, hH]; rfl) ?_
    simp only [List.drop_succ_cons, List.drop_zero]
    refine AOPS.fcall (hT) rfl rfl rfl hb195 (by simp (disch := first|omega|(simp only[ln];omega)) [idf_Wd', h4, h5, hH, idf_numS, cells_numS, numS_fold]) (by simp (disch := first|omega|(simp only[ln];omega)) [h4, h5, hH]) (by simp) ?_
    simp only [puts_some, updo]
    refine AOPS.all (by simp (disch := first|omega|(simp only[ln];omega)) [idf_Wd', idf_numS, cells_numS, numS_fold, h4, h5, hH]; rfl) ?_
    refine hK8 _ ?_
    refine AWP.ret ?_
    exact hK _ _ _ _ trivial (Fin.mk (by simp (disch := omega) [aRes, aResL, aRes1, h4, idf_Wd', idf_numS, cells_numS, numS_fold]))

end Go.Proofs.Ytmaebeknmiomnaa
