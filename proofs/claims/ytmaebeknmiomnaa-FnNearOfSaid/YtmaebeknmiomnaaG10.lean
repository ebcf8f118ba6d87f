/- Walks: drawn numbers near others; drawn spots. -/
import Derived.Test.YtmaebeknmiomnaaG0Z

namespace Go.Proofs.Ytmaebeknmiomnaa
open Go Go.RowKit
set_option linter.unusedSimpArgs false
set_option linter.unusedVariables false
set_option maxRecDepth 100000
attribute [local simp] szT2 byT2 agT2 unT2 zoT2 szT3 byT3 agT3 unT3 zoT3 szT24 byT24 agT24 unT24 zoT24 szT67 byT67 agT67 flT67 fdT67_0 fdT67_1 zoT67

set_option maxHeartbeats 1000000 in
theorem near_ac (a b : Int) (ha : -1152921504606846976 ≤ a) (hab : a ≤ b) (hb : b ≤ 1152921504606846976) (l : List Int) (p id : Nat) (H : Heap) (nx : Nat) (dl : Dig 256 l) (hl : l.length ≤ 1048576) (hp : p ≤ l.length) (hH : H id = some (2, [[Wd .u8 l, .int .i64 (p : Int)]])) (hd : ∀ i q, H i = some q → i < nx) : ACall Try.prog 164 [.ptr id 0 0, .int .i64 a, .int .i64 b] H nx (fun r H' nx' => (∃ k : Int, r = .int .i64 k ∧ a ≤ k ∧ k ≤ b) ∧ (∃ p' : Nat, p' ≤ l.length ∧ H' = hupd H id (some (2, [[Wd .u8 l, .int .i64 (p' : Int)]]))) ∧ nx ≤ nx') := by
 have hid := hd id _ hH
 refine .b Try.func164 31 fun K hK => ?_
 refine .q ?_
 refine .sq fun K2 hK2 => ?_
 refine .sq fun K3 hK3 => ?_
 refine .region ?_
 refine .k 1 ?_
 refine AOPS.old fun hold1 => ?_
 refine .a (below_ac 8 (by omega) (by omega) l p id _ _ dl hl hp (by simp [hH]) hold1) hb159 ?_
 rintro _ _ nx2 ⟨⟨k, rfl, k0, k1⟩, ⟨p2, hp2, rfl⟩, hnx2⟩
 try simp only [] at hnx2
 refine .nil ?_
 refine hK3 _ ?_
 refine .block ?_
 refine .q ?_
 refine .c (fun h9 => ?_) (fun h9 => ?_)
 ·try simp only[dc]at h9
  refine .q ?_
  refine .ret ?_
  exact hK _ _ _ _ _ trivial (Fin.mk (r := .int .i64 a) (by simp [aRes, aResL, aRes1])) (⟨⟨_, rfl, by omega, by omega⟩, ⟨p2, hp2, by simp [hupd_same]⟩, by first | exact hnx2 | (simp at *; omega)⟩)
 ·try simp only[dc]at h9
  refine .q ?_
  refine .c (fun h12 => ?_) (fun h12 => ?_)
  ·try simp only[dc]at h12
   refine .q ?_
   refine .ret ?_
   exact hK _ _ _ _ _ trivial (Fin.mk (r := .int .i64 b) (by simp [aRes, aResL, aRes1])) (⟨⟨_, rfl, by omega, by omega⟩, ⟨p2, hp2, by simp [hupd_same]⟩, by first | exact hnx2 | (simp at *; omega)⟩)
  ·try simp only[dc]at h12
   refine .skip ?_
   refine hK2 _ ?_
   refine .sq fun K8 hK8 => ?_
   refine .q ?_
   refine .c (fun h17 => ?_) (fun h17 => ?_)
   ·simp at h17; omega
   ·try simp only[dc]at h17
    refine .skip ?_
    refine hK8 _ ?_
    refine .sq fun K10 hK10 => ?_
    have hdz : b - a + 1 ≠ 0 := by omega
    have cw : IntKind.u64.wrap (b - a + 1) = b - a + 1 := wrap_u64s (by omega) (by omega)
    have tmw : ∀ w : Int, 0 ≤ w → (w / 2).tmod (b - a + 1) = w / 2 % (b - a + 1) := fun w h => Int.tmod_eq_emod_of_nonneg (by omega)
    have sw : ∀ w : Int, 0 ≤ w → IntKind.i64.wrap (w / 2 % (b - a + 1)) = w / 2 % (b - a + 1) := fun w h => by
      have e0 := Int.emod_nonneg (w / 2) hdz
      have e1 := Int.emod_lt_of_pos (w / 2) (show 0 < b - a + 1 by omega)
      exact wrap_i64s (by omega) (by omega)
    refine .region ?_
    refine .k 2 ?_ (by simp (disch := first|omega|(simp only[ln];omega)) [List.take_succ_cons, List.take_zero, IntKind.bits, Int.fdiv_eq_ediv_of_nonneg, hdz, tmw, cw, sw]; rfl)
    refine AOPS.old fun hold2 => ?_
    refine .a (word_ac l p2 id _ _ dl hl hp2 (by simp) hold2) hb163 ?_ (ha := by simp (disch := first|omega|(simp only[ln];omega)) [idf_Wd', IntKind.bits, Int.fdiv_eq_ediv_of_nonneg, hdz, tmw, cw, sw])
    rintro _ _ nx3 ⟨⟨w, rfl, hw0, hw1⟩, ⟨p3, hp3, rfl⟩, hnx3⟩
    have e0 := Int.emod_nonneg (w / 2) hdz
    have e1 := Int.emod_lt_of_pos (w / 2) (show 0 < b - a + 1 by omega)
    try simp only [] at hnx3
    refine .e ?_ (by simp (disch := first|omega|(simp only[ln];omega)) [IntKind.bits, Int.fdiv_eq_ediv_of_nonneg, hdz, tmw, cw, sw]; rfl)
    refine hK10 _ ?_
    refine .ret ?_
    exact hK _ _ _ _ _ trivial (Fin.mk (r := .int .i64 (a + w / 2 % (b - a + 1))) (by simp [aRes, aResL, aRes1])) (⟨⟨_, rfl, by omega, by omega⟩, ⟨p3, hp3, by simp [hupd_same]⟩, by first | exact Nat.le_trans hnx2 hnx3 | (simp at *; omega)⟩)
set_option maxHeartbeats 1000000 in
theorem spot_ac (l : List Int) (p id : Nat) (H : Heap) (nx : Nat) (dl : Dig 256 l) (hl : l.length ≤ 1048576) (hp : p ≤ l.length) (hH : H id = some (2, [[Wd .u8 l, .int .i64 (p : Int)]])) (hd : ∀ i q, H i = some q → i < nx) : ACall Try.prog 130 [.ptr id 0 0] H nx (fun r H' nx' => (∃ x y : Int, r = .agg [.int .i64 x, .int .i64 y] ∧ -6 ≤ x ∧ x ≤ 6 ∧ -6 ≤ y ∧ y ≤ 6) ∧ (∃ p' : Nat, p' ≤ l.length ∧ H' = hupd H id (some (2, [[Wd .u8 l, .int .i64 (p' : Int)]]))) ∧ nx ≤ nx') := by
 have hid := hd id _ hH
 refine .b Try.func130 8 fun K hK => ?_
 refine .q ?_
 refine .sq fun K2 hK2 => ?_
 refine .region ?_
 refine .k 1 ?_ (by simp (disch := first|omega|(simp only[ln];omega)) [List.take_succ_cons, List.take_zero, hH]; rfl)
 refine AOPS.old fun hold1 => ?_
 refine .a (near_ac (-6) (6) (by omega) (by omega) (by omega) l p id _ _ dl hl hp (by simp (disch := omega) [hH]) hold1) hb164 ?_ (ha := by simp (disch := first|omega|(simp only[ln];omega)) [idf_Wd', hH])
 rintro _ _ nx2 ⟨⟨x, rfl, x0, x1⟩, ⟨p2, hp2, rfl⟩, hnx2⟩
 try simp only [] at hnx2
 refine .k 1 ?_ (by simp (disch := first|omega|(simp only[ln];omega)) [List.take_succ_cons, List.take_zero, hH]; rfl)
 refine AOPS.old fun hold3 => ?_
 refine .a (near_ac (-6) (6) (by omega) (by omega) (by omega) l p2 id _ _ dl hl hp2 (by simp (disch := omega) [hH]) hold3) hb164 ?_ (ha := by simp (disch := first|omega|(simp only[ln];omega)) [idf_Wd', hH])
 rintro _ _ nx3 ⟨⟨y, rfl, y0, y1⟩, ⟨p3, hp3, rfl⟩, hnx3⟩
 try simp only [] at hnx3
 refine .e ?_ (by simp (disch := first|omega|(simp only[ln];omega)) [hH]; rfl)
 refine hK2 _ ?_
 refine .ret ?_
 exact hK _ _ _ _ _ trivial ((Fin.mk (r := .agg [.int .i64 x, .int .i64 y]) (by simp (disch := omega) [aRes, aResL, aRes1])).restr (fun i => decide (i < nx))) (⟨⟨x, y, rfl, x0, x1, y0, y1⟩, ⟨p3, hp3, by simp (disch := first | omega | (simp; done) | (simp; omega)) [hrestr_in, hrestr_out, hrestr_all hd, hupd_same]⟩, by first | omega | (simp at *; omega)⟩)

end Go.Proofs.Ytmaebeknmiomnaa

/- Walks: drawn points. -/
namespace Go.Proofs.Ytmaebeknmiomnaa
open Go Go.RowKit
set_option linter.unusedSimpArgs false
set_option linter.unusedVariables false
set_option maxRecDepth 100000
attribute [local simp] szT2 byT2 agT2 unT2 zoT2 szT3 byT3 agT3 unT3 zoT3 szT22 byT22 agT22 elT22 unT22 zoT22 szT24 byT24 agT24 unT24 zoT24 szT26 byT26 agT26 flT26 fdT26_0 fdT26_1 fdT26_2 fdT26_3 zoT26 szT28 byT28 agT28 flT28 fdT28_0 fdT28_1 fdT28_2 zoT28 szT67 byT67 agT67 flT67 fdT67_0 fdT67_1 zoT67 szT190 byT190 agT190 flT190 fdT190_0 fdT190_1 zoT190

theorem open_ac (l : List Int) (H : Heap) (nx : Nat) : ACall Try.prog 76 [Wd .u8 l] H nx (fun r H' nx' => r = .ptr nx 0 0 ∧ H' = hupd H nx (some (2, [[Wd .u8 l, .int .i64 0]])) ∧ nx' = nx + 1) := by
 refine .b Try.func76 6 fun K hK => ?_
 refine .q ?_
 refine .q ?_
 refine .ret ?_
 exact hK _ _ _ _ _ trivial (Fin.mk (r := .ptr nx 0 0) (by simp [aRes, aResL, aRes1])) (⟨rfl, by simp, by simp⟩)

end Go.Proofs.Ytmaebeknmiomnaa

/- Walks: FnTurns, walked. -/
namespace Go.Proofs.Ytmaebeknmiomnaa
open Go Go.RowKit
set_option linter.unusedSimpArgs false
set_option linter.unusedVariables false
set_option maxRecDepth 100000
attribute [local simp] szT3 byT3 agT3 unT3 zoT3 szT5 byT5 agT5 unT5 zoT5 szT22 byT22 agT22 elT22 unT22 zoT22 szT26 byT26 agT26 flT26 fdT26_0 fdT26_1 fdT26_2 fdT26_3 zoT26 szT28 byT28 agT28 flT28 fdT28_0 fdT28_1 fdT28_2 zoT28

theorem big_fc (l : List Int) : FC Try.prog 15 [Wd .u8 l] (.bool (decide (1048576 < (l.length : Int)))) := by
 refine .b Try.func15 6 (fun nx K hK => ?_)
 refine .q ?_
 refine .q ?_ (by simp (disch := first|omega|(simp only[ln];omega)) [len_Wd (P := Try.prog) #[22] rfl elT22]; rfl)
 refine .ret ?_
 exact hK _ _ _ _ trivial (Fin.m)

end Go.Proofs.Ytmaebeknmiomnaa

/- Walks: points in order, between, crossings (both). -/
namespace Go.Proofs.Ytmaebeknmiomnaa
open Go Go.RowKit
set_option linter.unusedSimpArgs false
set_option linter.unusedVariables false
set_option maxRecDepth 100000
attribute [local simp] szT2 byT2 agT2 unT2 zoT2 szT4 byT4 agT4 unT4 zoT4 szT26 byT26 agT26 flT26 fdT26_0 fdT26_1 fdT26_2 fdT26_3 zoT26 szT28 byT28 agT28 flT28 fdT28_0 fdT28_1 fdT28_2 zoT28 szT111 byT111 agT111 elT111 unT111 zoT111 szT113 byT113 agT113 flT113 fdT113_0 fdT113_1 zoT113 szT115 byT115 agT115 flT115 fdT115_0 fdT115_1 fdT115_2 zoT115 szT117 byT117 agT117 elT117 unT117 zoT117 szT119 byT119 agT119 flT119 fdT119_0 fdT119_1 zoT119 szT121 byT121 agT121 flT121 fdT121_0 fdT121_1 fdT121_2 zoT121

theorem eqW4n (n : Nat) (a b c d a' b' c' d' : Int) : eqW Try.prog (n + 2) 26 [.int .u64 a, .int .u64 b, .int .u64 c, .int .u64 d] [.int .u64 a', .int .u64 b', .int .u64 c', .int .u64 d'] = some ((a == a') && ((b == b') && ((c == c') && ((d == d') && true)))) := by
  have hs : Try.prog.stoodInHeld 26 = false := by kernel_rfl
  have hz : szOf Try.prog 24 = some 1 := by kernel_rfl
  have ha : aggT Try.prog 24 = some false := by kernel_rfl
  unfold eqW
  simp only [Try.underlying26, hs]
  simp [eqF, hz, ha, eqW1]
theorem eqPt (p q : Pt) : eqW Try.prog 8 28 [.int .u64 p.x.a, .int .u64 p.x.b, .int .u64 p.x.c, .int .u64 p.x.d, .int .u64 p.y.a, .int .u64 p.y.b, .int .u64 p.y.c, .int .u64 p.y.d, .int .u64 p.w.a, .int .u64 p.w.b, .int .u64 p.w.c, .int .u64 p.w.d] [.int .u64 q.x.a, .int .u64 q.x.b, .int .u64 q.x.c, .int .u64 q.x.d, .int .u64 q.y.a, .int .u64 q.y.b, .int .u64 q.y.c, .int .u64 q.y.d, .int .u64 q.w.a, .int .u64 q.w.b, .int .u64 q.w.c, .int .u64 q.w.d] = some (decide (p = q)) := by
  have hs : Try.prog.stoodInHeld 28 = false := by kernel_rfl
  have hz : szOf Try.prog 26 = some 4 := by kernel_rfl
  have ha : aggT Try.prog 26 = some true := by kernel_rfl
  unfold eqW
  simp only [Try.underlying28, hs]
  simp [eqF, hz, ha, eqW4n]
  obtain ⟨⟨a1, a2, a3, a4⟩, ⟨b1, b2, b3, b4⟩, ⟨c1, c2, c3, c4⟩⟩ := p
  obtain ⟨⟨d1, d2, d3, d4⟩, ⟨e1, e2, e3, e4⟩, ⟨f1, f2, f3, f4⟩⟩ := q
  rw [Bool.eq_iff_iff]
  simp [Pt.mk.injEq, W4.mk.injEq, and_assoc]
theorem cmV_self (p : Pt) : cmV p p = 0 := by
  have := cmV_anti p p; omega
section
attribute [local simp] idf_numS cells_numS numS_fold idf_numI cells_numI numI_fold Pt.av Pt.cells spA spC
set_option maxHeartbeats 2000000 in
theorem cmpPoints_fc (p q : Pt) (hp : p.ok) (hq : q.ok) : FC Try.prog 80 [p.av, q.av] (.int .i64 (cmV p q)) := by
 have pX := W4.bg hp.1
 have pY := W4.bg hp.2.1
 have pW := W4.bg hp.2.2
 have qX := W4.bg hq.1
 have qY := W4.bg hq.2.1
 have qW := W4.bg hq.2.2
 have hcx : FC Try.prog 88 [numI (p.x.v * q.w.v), numI (q.x.v * p.w.v)] (.int .i64 (cmX p q)) := cmp_fc (pX.mul qW) (qX.mul pW) (by omega) (by omega)
 have hcy : FC Try.prog 88 [numI (p.y.v * q.w.v), numI (q.y.v * p.w.v)] (.int .i64 (cmY p q)) := cmp_fc (pY.mul qW) (qY.mul pW) (by omega) (by omega)
 refine .b Try.func80 40 (fun nx K hK => ?_) (hi := by simp [idfL, idf, Pt.av, Pt.cells])
 refine .q ?_
 refine .sq fun K2 hK2 => ?_
 refine .q ?_ (by simp (disch := first|omega|(simp only[ln];omega)) [eqPt]; rfl)
 refine .c (t := decide (p = q)) (fun h10 => ?_) (fun h10 => ?_)
 ·try simp only[dc]at h10
  subst h10
  refine .q ?_
  refine .ret ?_
  exact hK _ _ _ _ trivial ((Fin.m).cast (by rw [cmV_self]))
 ·try simp only[dc]at h10
  refine .skip ?_
  refine hK2 _ ?_
  refine .sq fun K5 hK5 => ?_
  refine .old fun hold => ?_
  refine .d 6 ?_
  refine .k 1 (fun fs6 hfs6 => ?_)
  refine .f (spot_fc p hp) hb84 ?_
  refine DP.runF1q (by simp (disch := first|omega|(simp only[ln];omega)) [runDf.eq_def, runF1, runF2, stepF.eq_def, updo.eq_def, hupo.eq_def, opSto1.eq_def]; rfl) fun fq7 hfq7 => ?_
  simp [qids, asksB, Op.operands, topId] at hfq7
  simp only [updo]
  refine .f (spot_fc q hq) hb84 ?_
  refine .k 2 (fun fs8 hfs8 => ?_)
  refine DQ.sto1 (m := 6) [2] _ (by simp (disch := first|omega|(simp only[ln];omega)) [runDf.eq_def, runF1, runF2, stepF.eq_def, updo.eq_def, hupo.eq_def, opSto1.eq_def]; rfl) rfl (by simp only[ln, hfs6, hfs8];omega) (by kernel_rfl) (by intro k f hk hex; simp only [List.mem_cons, List.not_mem_nil, or_false] at hex; rcases hex with rfl <;> (simp [List.getElem?_append, hfs6, hfs8] at hk; subst hk; refine ⟨?_, by first | omega | (simp; done) | (simp; omega)⟩; simp [qids, asksB, Op.operands, Call.operands, topId, numS, numI, Wd, hfq7]; try omega)) ?_
  try simp only []
  refine DQ.sto1 (m := 6) [] _ (by simp (disch := first|omega|(simp only[ln];omega)) [runDf.eq_def, runF1, runF2, stepF.eq_def, updo.eq_def, hupo.eq_def, opSto1.eq_def]; rfl) rfl (by simp only[ln, hfs6, hfs8];omega) (by kernel_rfl) (by intro k f hk hex; simp only [List.not_mem_nil] at hex) ?_
  try simp only []
  refine hK5 _ ?_
  refine .sq fun K9 hK9 => ?_
  refine .sq fun K10 hK10 => ?_
  refine .d 11 ?_
  refine .k 4 (fun fs11 hfs11 => ?_)
  refine .f (by_fc pX qW (by omega) (by omega)) hb92 ?_
  refine .k 4 (fun fs12 hfs12 => ?_)
  refine .f (by_fc qX pW (by omega) (by omega)) hb92 ?_
  refine .f hcx hb88 ?_
  refine .r 11 (by simp only[ln, hfs11, hfs12];omega) ?_
  refine hK10 _ ?_
  refine .q ?_
  refine .c (t := cmX p q != 0) (fun h27 => ?_) (fun h27 => ?_) (by simp (disch := first|omega|(simp only[ln];omega)) [bne])
  ·try simp only[dc]at h27
   have hne : cmX p q ≠ 0 := by simpa using h27
   refine .q ?_
   refine .ret ?_
   exact hK _ _ _ _ trivial ((Fin.m).cast (by rw [cmV, if_pos hne]))
  ·try simp only[dc]at h27
   have hne : ¬ cmX p q ≠ 0 := by simpa using h27
   refine .skip ?_
   refine hK9 _ ?_
   refine .sq fun K15 hK15 => ?_
   refine .d 11 ?_
   refine .k 4 (fun fs16 hfs16 => ?_)
   refine .f (by_fc pY qW (by omega) (by omega)) hb92 ?_
   refine .k 4 (fun fs17 hfs17 => ?_)
   refine .f (by_fc qY pW (by omega) (by omega)) hb92 ?_
   refine .f hcy hb88 ?_
   refine .r 11 (by simp only[ln, hfs16, hfs17];omega) ?_
   refine hK15 _ ?_
   refine .ret ?_
   exact hK _ _ _ _ trivial ((Fin.m).cast (by rw [cmV, if_neg hne]))
end
section
attribute [local simp] idf_numS cells_numS numS_fold idf_numI cells_numI numI_fold Pt.av Pt.cells
end
section
attribute [local simp] idf_numS cells_numS numS_fold idf_numI cells_numI numI_fold l3A l3C
end

end Go.Proofs.Ytmaebeknmiomnaa

/- Walks: fractions of the program. -/
namespace Go.Proofs.Ytmaebeknmiomnaa
open Go Go.RowKit
set_option linter.unusedSimpArgs false
set_option linter.unusedVariables false
set_option maxRecDepth 100000
attribute [local simp] szT2 byT2 agT2 unT2 zoT2 szT4 byT4 agT4 unT4 zoT4 szT24 byT24 agT24 unT24 zoT24 szT26 byT26 agT26 flT26 fdT26_0 fdT26_1 fdT26_2 fdT26_3 zoT26 szT51 byT51 agT51 flT51 fdT51_0 fdT51_1 zoT51 szT117 byT117 agT117 elT117 unT117 zoT117 szT119 byT119 agT119 flT119 fdT119_0 fdT119_1 zoT119 szT143 byT143 agT143 flT143 fdT143_0 fdT143_1 zoT143 szT200 byT200 agT200 elT200 unT200 zoT200

section
attribute [local simp] idf_numI cells_numI numI_fold
set_option maxHeartbeats 2000000 in
theorem over_fc {j : Nat} (a b : Int) (hb0 : b ≠ 0) (ha : Bg j a) (hb : Bg j b) (hj : j ≤ 16777216) : FC Try.prog 180 [numI a, numI b] (.tup [numI (a / b), numI (a % b)]) := by
 have hD := divWords_fc a.natAbs b.natAbs (by omega) (by have := ha.len; rw [mag_abs]; omega) (by have := hb.len; rw [mag_abs]; omega)
 rw [mag_abs, mag_abs] at hD
 have eu := eu_lem a b hb0
 generalize hq : ((a.natAbs / b.natAbs : Nat) : Int) = q0 at *
 generalize hr : ((a.natAbs % b.natAbs : Nat) : Int) = r0 at *
 have q0n : 0 ≤ q0 := by rw [← hq]; exact Int.natCast_nonneg _
 have r0n : 0 ≤ r0 := by rw [← hr]; exact Int.natCast_nonneg _
 have bq : Bg j q0 := by
   rw [← hq]; unfold Bg at *; rw [Int.natAbs_natCast]; have := Nat.div_le_self a.natAbs b.natAbs; omega
 have br : Bg j r0 := by
   rw [← hr]; unfold Bg at *; rw [Int.natAbs_natCast]; have := Nat.mod_le a.natAbs b.natAbs; omega
 have bqs : ∀ s, Bg j (sg s q0) := fun s => by cases s <;> simp only [sg_true, sg_false]; exact bq; exact bq.neg
 have brs : ∀ s, Bg j (sg s r0) := fun s => by cases s <;> simp only [sg_true, sg_false]; exact br; exact br.neg
 have lq := bq.len
 have lr := br.len
 have hT1 := made_fc (decide (a < 0) != decide (b < 0)) (mag q0) (by omega) (mag_dig _)
 rw [mag_val, Int.natAbs_of_nonneg q0n] at hT1
 have hT2 := made_fc (decide (a < 0)) (mag r0) (by omega) (mag_dig _)
 rw [mag_val, Int.natAbs_of_nonneg r0n] at hT2
 obtain ⟨S, hS⟩ : ∃ S, (decide (a < 0) != decide (b < 0)) = S := ⟨_, rfl⟩
 have hS2 : (decide (a < 0) == decide (b < 0)) = !S := by rw [← hS]; cases decide (a < 0) <;> cases decide (b < 0) <;> rfl
 rw [hS] at eu hT1
 refine .b Try.func180 45 (fun nx K hK => ?_)
 refine .q ?_
 refine .sq fun K2 hK2 => ?_
 refine .region ?_
 refine .kf 4 hD hb172 ?_
 refine .e ?_
 refine hK2 _ ?_
 refine .sq fun K3 hK3 => ?_
 refine .old fun hold => ?_
 refine .d 13 ?_
 refine .k 6 (fun fs4 hfs4 => ?_) (by simp (disch := first|omega|(simp only[ln];omega)) [runDf.eq_def, runF1, runF2, stepF.eq_def, updo.eq_def, hupo.eq_def, opSto1.eq_def, List.take_succ_cons, List.take_zero, hS2]; rfl)
 refine .f hT1 hb174 ?_ (ha := by simp (disch := first|omega|(simp only[ln];omega)) [idf_Wd', hS2])
 refine DP.runF1q (by simp (disch := first|omega|(simp only[ln];omega)) [runDf.eq_def, runF1, runF2, stepF.eq_def, updo.eq_def, hupo.eq_def, opSto1.eq_def, hS2]; rfl) fun fq5 hfq5 => ?_
 simp [qids, asksB, Op.operands, topId] at hfq5
 simp only [updo]
 refine DP.runF1q (by simp (disch := first|omega|(simp only[ln];omega)) [runDf.eq_def, runF1, runF2, stepF.eq_def, updo.eq_def, hupo.eq_def, opSto1.eq_def, hS2]; rfl) fun fq6 hfq6 => ?_
 simp [qids, asksB, Op.operands, topId] at hfq6
 simp only [updo]
 refine DP.runF1q (by simp (disch := first|omega|(simp only[ln];omega)) [runDf.eq_def, runF1, runF2, stepF.eq_def, updo.eq_def, hupo.eq_def, opSto1.eq_def, hS2]; rfl) fun fq7 hfq7 => ?_
 simp [qids, asksB, Op.operands, topId] at hfq7
 simp only [updo]
 refine .f hT2 hb174 ?_ (ha := by simp (disch := first|omega|(simp only[ln];omega)) [idf_Wd', hS2])
 refine .k 2 (fun fs8 hfs8 => ?_) (by simp (disch := first|omega|(simp only[ln];omega)) [runDf.eq_def, runF1, runF2, stepF.eq_def, updo.eq_def, hupo.eq_def, opSto1.eq_def, List.take_succ_cons, List.take_zero, hS2]; rfl)
 refine DQ.sto1 (m := 13) [7, 8, 9] _ (by simp (disch := first|omega|(simp only[ln];omega)) [runDf.eq_def, runF1, runF2, stepF.eq_def, updo.eq_def, hupo.eq_def, opSto1.eq_def, hS2]; rfl) rfl (by simp only[ln, hfs4, hfs8];omega) (by kernel_rfl) (by intro k f hk hex; simp only [List.mem_cons, List.not_mem_nil, or_false] at hex; rcases hex with rfl | rfl | rfl <;> (simp [List.getElem?_append, hfs4, hfs8] at hk; subst hk; refine ⟨?_, by first | omega | (simp; done) | (simp; omega)⟩; simp [qids, asksB, Op.operands, Call.operands, topId, numS, numI, Wd, hfq5, hfq6, hfq7]; try omega)) ?_
 try simp only []
 refine DQ.sto1 (m := 13) [] _ (by simp (disch := first|omega|(simp only[ln];omega)) [runDf.eq_def, runF1, runF2, stepF.eq_def, updo.eq_def, hupo.eq_def, opSto1.eq_def, hS2]; rfl) rfl (by simp only[ln, hfs4, hfs8];omega) (by kernel_rfl) (by intro k f hk hex; simp only [List.not_mem_nil] at hex) ?_
 try simp only []
 refine hK3 _ ?_
 refine .sq fun K9 hK9 => ?_
 refine .q ?_
 refine .c (t := decide (sg (decide (a < 0)) r0 < 0)) (fun h30 => ?_) (fun h30 => ?_)
 ·try simp only[dc]at h30
  refine .sq fun K11 hK11 => ?_
  refine .d 4 ?_
  refine .k 2 (fun fs12 hfs12 => ?_)
  refine .f (abs_fc b) hb217 ?_
  refine .f (plus_fc (brs (decide (a < 0))) hb.abs (by omega) (by omega)) hb101 ?_
  refine .r 4 (by simp only[ln, hfs12];omega) ?_
  refine hK11 _ ?_
  refine .q ?_
  refine .c (t := decide (b < 0)) (fun h36 => ?_) (fun h36 => ?_)
  ·try simp only[dc]at h36
   have e := eu.2.1 h30 h36
   refine .d 3 ?_
   refine .k 1 (fun fs14 hfs14 => ?_)
   refine .f (whole_fc 1 (by omega) (by omega)) hb89 ?_
   refine .f (plus_fc (bqs S) (Bg.i64 (n := 1) (by omega) (by omega)) (by omega) (by omega)) hb101 ?_
   refine .r 3 (by simp only[ln, hfs14];omega) ?_
   refine hK9 _ ?_
   refine .sq fun K15 hK15 => ?_
   refine .old fun hold => ?_
   refine .d 2 ?_
   refine .k 1 (fun fs16 hfs16 => ?_)
   refine DP.runF1q (by simp (disch := first|omega|(simp only[ln];omega)) [runDf.eq_def, runF1, runF2, stepF.eq_def, updo.eq_def, hupo.eq_def, opSto1.eq_def]; rfl) fun fq17 hfq17 => ?_
   simp [qids, asksB, Op.operands, topId] at hfq17
   simp only [updo]
   refine DQ.sto1 (m := 2) [1] _ (by simp (disch := first|omega|(simp only[ln];omega)) [runDf.eq_def, runF1, runF2, stepF.eq_def, updo.eq_def, hupo.eq_def, opSto1.eq_def]; rfl) rfl (by simp only[ln, hfs16];omega) (by kernel_rfl) (by intro k f hk hex; simp only [List.mem_cons, List.not_mem_nil, or_false] at hex; rcases hex with rfl <;> (simp [List.getElem?_append, hfs16] at hk; subst hk; refine ⟨?_, by first | omega | (simp; done) | (simp; omega)⟩; simp [qids, asksB, Op.operands, Call.operands, topId, numS, numI, Wd, hfq17]; try omega)) ?_
   try simp only []
   refine DQ.sto1 (m := 2) [] _ (by simp (disch := first|omega|(simp only[ln];omega)) [runDf.eq_def, runF1, runF2, stepF.eq_def, updo.eq_def, hupo.eq_def, opSto1.eq_def]; rfl) rfl (by simp only[ln, hfs16];omega) (by kernel_rfl) (by intro k f hk hex; simp only [List.not_mem_nil] at hex) ?_
   try simp only []
   refine hK15 _ ?_
   refine .ret ?_
   exact hK _ _ _ _ trivial ((Fin.m).cast (by rw [← e.1, ← e.2, show ((b.natAbs : Nat) : Int) = -b by omega, ← Int.sub_eq_add_neg]))
  ·try simp only[dc]at h36
   have e := eu.2.2 h30 h36
   refine .d 3 ?_
   refine .k 1 (fun fs18 hfs18 => ?_)
   refine .f (whole_fc 1 (by omega) (by omega)) hb89 ?_
   refine .f (less_fc (bqs S) (Bg.i64 (n := 1) (by omega) (by omega)) (by omega) (by omega)) hb109 ?_
   refine .r 3 (by simp only[ln, hfs18];omega) ?_
   refine hK9 _ ?_
   refine .sq fun K19 hK19 => ?_
   refine .old fun hold => ?_
   refine .d 2 ?_
   refine .k 1 (fun fs20 hfs20 => ?_)
   refine DP.runF1q (by simp (disch := first|omega|(simp only[ln];omega)) [runDf.eq_def, runF1, runF2, stepF.eq_def, updo.eq_def, hupo.eq_def, opSto1.eq_def]; rfl) fun fq21 hfq21 => ?_
   simp [qids, asksB, Op.operands, topId] at hfq21
   simp only [updo]
   refine DQ.sto1 (m := 2) [1] _ (by simp (disch := first|omega|(simp only[ln];omega)) [runDf.eq_def, runF1, runF2, stepF.eq_def, updo.eq_def, hupo.eq_def, opSto1.eq_def]; rfl) rfl (by simp only[ln, hfs20];omega) (by kernel_rfl) (by intro k f hk hex; simp only [List.mem_cons, List.not_mem_nil, or_false] at hex; rcases hex with rfl <;> (simp [List.getElem?_append, hfs20] at hk; subst hk; refine ⟨?_, by first | omega | (simp; done) | (simp; omega)⟩; simp [qids, asksB, Op.operands, Call.operands, topId, numS, numI, Wd, hfq21]; try omega)) ?_
   try simp only []
   refine DQ.sto1 (m := 2) [] _ (by simp (disch := first|omega|(simp only[ln];omega)) [runDf.eq_def, runF1, runF2, stepF.eq_def, updo.eq_def, hupo.eq_def, opSto1.eq_def]; rfl) rfl (by simp only[ln, hfs20];omega) (by kernel_rfl) (by intro k f hk hex; simp only [List.not_mem_nil] at hex) ?_
   try simp only []
   refine hK19 _ ?_
   refine .ret ?_
   exact hK _ _ _ _ trivial ((Fin.m).cast (by rw [← e.1, ← e.2, show ((b.natAbs : Nat) : Int) = b by omega]))
 ·try simp only[dc]at h30
  have e := eu.1 h30
  refine .skip ?_
  refine hK9 _ ?_
  refine .sq fun K22 hK22 => ?_
  refine .old fun hold => ?_
  refine .d 2 ?_
  refine .k 1 (fun fs23 hfs23 => ?_)
  refine DP.runF1q (by simp (disch := first|omega|(simp only[ln];omega)) [runDf.eq_def, runF1, runF2, stepF.eq_def, updo.eq_def, hupo.eq_def, opSto1.eq_def]; rfl) fun fq24 hfq24 => ?_
  simp [qids, asksB, Op.operands, topId] at hfq24
  simp only [updo]
  refine DQ.sto1 (m := 2) [1] _ (by simp (disch := first|omega|(simp only[ln];omega)) [runDf.eq_def, runF1, runF2, stepF.eq_def, updo.eq_def, hupo.eq_def, opSto1.eq_def]; rfl) rfl (by simp only[ln, hfs23];omega) (by kernel_rfl) (by intro k f hk hex; simp only [List.mem_cons, List.not_mem_nil, or_false] at hex; rcases hex with rfl <;> (simp [List.getElem?_append, hfs23] at hk; subst hk; refine ⟨?_, by first | omega | (simp; done) | (simp; omega)⟩; simp [qids, asksB, Op.operands, Call.operands, topId, numS, numI, Wd, hfq24]; try omega)) ?_
  try simp only []
  refine DQ.sto1 (m := 2) [] _ (by simp (disch := first|omega|(simp only[ln];omega)) [runDf.eq_def, runF1, runF2, stepF.eq_def, updo.eq_def, hupo.eq_def, opSto1.eq_def]; rfl) rfl (by simp only[ln, hfs23];omega) (by kernel_rfl) (by intro k f hk hex; simp only [List.not_mem_nil] at hex) ?_
  try simp only []
  refine hK22 _ ?_
  refine .ret ?_
  exact hK _ _ _ _ trivial ((Fin.m).cast (by rw [e.1, e.2]))
end
section
attribute [local simp] idf_numI cells_numI numI_fold rtA rtC numC
set_option maxHeartbeats 2000000 in
theorem lowest_fc {j : Nat} (u d : Int) (hd : d ≠ 0) (bu : Bg j u) (bd : Bg j d) (hj : j ≤ 16777216) : FC Try.prog 146 [rtA u d] (rtA (lowU u d) (lowD u d)) := by
 have hg2 : FC Try.prog 87 [.isl [numC u, numC d]] (numI (gg u d)) := by
   have h := gcd_fc (j := j) [u, d] (by intro z hz; simp only [List.mem_cons, List.not_mem_nil, or_false] at hz; rcases hz with rfl | rfl <;> assumption) (by omega) (by simp)
   rw [gcdL_two] at h; exact h
 have bg := gg_bg bu bd
 have hgp := gg_pos (u := u) hd
 have hdn := dq_neg (u := u) hd
 have bU : Bg j (u / gg u d) := bu.div hgp
 have bD : Bg j (d / gg u d) := bd.div hgp
 have lp := low_pos (u := u) (d := d)
 have ln' := low_neg (u := u) (d := d)
 generalize gg u d = g at *
 refine .b Try.func146 37 (fun nx K hK => ?_) (hr := by simp [idfL, idf, idf_Wd', rtA, rtC])
 refine .q ?_
 refine .sq fun K2 hK2 => ?_
 refine .region ?_
 refine .k 5 ?_
 refine AOPS.frz1 12 (nx + 1 + 1) 2 [numC u, numC d] (.isl [numC u, numC d]) (by simp [numC]) (by simp [fz, numC]) ?_
 refine .f hg2 hb87 ?_
 refine .e ?_
 refine hK2 _ ?_
 refine .sq fun K3 hK3 => ?_
 refine .region ?_
 refine .kf 3 (over_fc u g (by omega) bu bg hj) hb180 ?_
 refine .e ?_
 refine hK3 _ ?_
 refine .sq fun K4 hK4 => ?_
 refine .region ?_
 refine .kf 3 (over_fc d g (by omega) bd bg hj) hb180 ?_
 refine .e ?_
 refine hK4 _ ?_
 refine .sq fun K5 hK5 => ?_
 refine .q ?_
 refine .c (t := decide (d / g < 0)) (fun h29 => ?_) (fun h29 => ?_)
 ·try simp only[dc]at h29
  have e := ln' (hdn.1 h29)
  refine .old fun hold => ?_
  refine .d 4 ?_
  refine .k 1 (fun fs7 hfs7 => ?_)
  refine .f (minus_fc bU (by omega)) hb179 ?_
  refine DP.runF1q (by simp (disch := first|omega|(simp only[ln];omega)) [runDf.eq_def, runF1, runF2, stepF.eq_def, updo.eq_def, hupo.eq_def, opSto1.eq_def]; rfl) fun fq8 hfq8 => ?_
  simp [qids, asksB, Op.operands, topId] at hfq8
  simp only [updo]
  refine .f (minus_fc bD (by omega)) hb179 ?_
  refine DQ.sto1 (m := 4) [2] _ (by simp (disch := first|omega|(simp only[ln];omega)) [runDf.eq_def, runF1, runF2, stepF.eq_def, updo.eq_def, hupo.eq_def, opSto1.eq_def]; rfl) rfl (by simp only[ln, hfs7];omega) (by kernel_rfl) (by intro k f hk hex; simp only [List.mem_cons, List.not_mem_nil, or_false] at hex; rcases hex with rfl <;> (simp [List.getElem?_append, hfs7] at hk; subst hk; refine ⟨?_, by first | omega | (simp; done) | (simp; omega)⟩; simp [qids, asksB, Op.operands, Call.operands, topId, numS, numI, Wd, hfq8]; try omega)) ?_
  try simp only []
  refine DQ.sto1 (m := 4) [] _ (by simp (disch := first|omega|(simp only[ln];omega)) [runDf.eq_def, runF1, runF2, stepF.eq_def, updo.eq_def, hupo.eq_def, opSto1.eq_def]; rfl) rfl (by simp only[ln, hfs7];omega) (by kernel_rfl) (by intro k f hk hex; simp only [List.not_mem_nil] at hex) ?_
  try simp only []
  refine hK5 _ ?_
  refine .q ?_
  refine .ret ?_
  exact hK _ _ _ _ trivial ((Fin.m).cast (by rw [e.1, e.2]; simp [rtA, rtC]))
 ·try simp only[dc]at h29
  have e := lp (fun h => h29 (hdn.2 h))
  refine .skip ?_
  refine hK5 _ ?_
  refine .q ?_
  refine .ret ?_
  exact hK _ _ _ _ trivial ((Fin.m).cast (by rw [e.1, e.2]; rfl))
end
section
attribute [local simp] idf_numI cells_numI numI_fold rtA rtC
set_option maxHeartbeats 2000000 in
theorem told_fc {j : Nat} (u d : Int) (bu : Bg j u) (bd : Bg j d) (hj : j ≤ 16777216) : FC Try.prog 110 [rtA u d] (.tup [.agg [.int .u64 ((told u d).1).up.a, .int .u64 ((told u d).1).up.b, .int .u64 ((told u d).1).up.c, .int .u64 ((told u d).1).up.d, .int .u64 ((told u d).1).down.a, .int .u64 ((told u d).1).down.b, .int .u64 ((told u d).1).down.c, .int .u64 ((told u d).1).down.d], .bool (told u d).2]) := by
 obtain ⟨cs, hsf, hse⟩ : ∃ c : Int, FC Try.prog 85 [numI d] (.int .i64 c) ∧ (c == 0) = decide (d = 0) := ⟨_, sign_fc d, by
   by_cases h : d = 0
   · subst h; rfl
   · have : (if d < 0 then (-1 : Int) else if d > 0 then 1 else 0) ≠ 0 := by split <;> (try split) <;> omega
     rw [beq_eq_false_iff_ne.2 this]; simp [h]⟩
 refine .b Try.func110 37 (fun nx K hK => ?_)
 refine .q ?_
 refine .sq fun K2 hK2 => ?_
 refine .sq fun K3 hK3 => ?_
 refine .region ?_
 refine .kf 2 hsf hb85 ?_
 refine .e ?_
 refine hK3 _ ?_
 refine .c (t := decide (d = 0)) (fun h11 => ?_) (fun h11 => ?_) (by simp (disch := first|omega|(simp only[ln];omega)) [hse])
 ·try simp only[dc]at h11
  refine .q ?_
  refine .ret ?_
  exact hK _ _ _ _ trivial ((Fin.m).cast (by rw [h11, told_zero]; rfl))
 ·try simp only[dc]at h11
  have hd : d ≠ 0 := h11
  have w1 := wide_fc (lowU_bg (u := u) hd bu) (by omega)
  have w2 := wide_fc (lowD_bg (u := u) hd bd) (by omega)
  rw [wdT_l] at w1 w2
  unfold W4.l at w1 w2
  have ht := told_fit (u := u) hd
  refine .skip ?_
  refine hK2 _ ?_
  refine .sq fun K5 hK5 => ?_
  refine .region ?_
  refine .kf 1 (lowest_fc u d hd bu bd hj) hb146 ?_
  refine .e ?_
  refine hK5 _ ?_
  refine .sq fun K6 hK6 => ?_
  refine .region ?_
  refine .kf 2 w1 hb90 ?_
  refine .e ?_
  refine hK6 _ ?_
  refine .sq fun K7 hK7 => ?_
  refine .region ?_
  refine .kf 2 w2 hb90 ?_
  refine .e ?_
  refine hK7 _ ?_
  refine .sq fun K8 hK8 => ?_
  refine .sq fun K9 hK9 => ?_
  cases hf : fits (lowU u d)
  ·refine .r ?_ (by simp (disch := first|omega|(simp only[ln];omega)) [hf]; rfl)
   refine hK9 _ ?_
   refine .c (fun h32 => ?_) (fun h32 => ?_)
   ·try simp only[dc]at h32
    refine .q ?_
    refine .ret ?_
    exact hK _ _ _ _ trivial ((Fin.m).cast (by rw [ht, hf]; rfl))
   ·simp at h32
  ·refine .r ?_ (by simp (disch := first|omega|(simp only[ln];omega)) [hf]; rfl)
   refine hK9 _ ?_
   refine .c (t := !fits (lowD u d)) (fun h32 => ?_) (fun h32 => ?_)
   ·try simp only[dc]at h32
    have hf2 : fits (lowD u d) = false := by simpa using h32
    refine .q ?_
    refine .ret ?_
    exact hK _ _ _ _ trivial ((Fin.m).cast (by rw [ht, hf, hf2]; rfl))
   ·try simp only[dc]at h32
    have hf2 : fits (lowD u d) = true := by simpa using h32
    refine .skip ?_
    refine hK8 _ ?_
    refine .q ?_
    refine .ret ?_
    exact hK _ _ _ _ trivial ((Fin.m).cast (by rw [ht, hf, hf2]; rfl))
set_option maxHeartbeats 2000000 in
theorem rcmp_fc {j : Nat} (a b c d : Int) (ba : Bg j a) (bb : Bg j b) (bc : Bg j c) (bd : Bg j d) (hj : j ≤ 16777216) : FC Try.prog 136 [rtA a b, rtA c d] (.int .i64 (cm (a * d) (c * b))) := by
 have hc : FC Try.prog 88 [numI (a * d), numI (c * b)] (.int .i64 (cm (a * d) (c * b))) := cmp_fc (ba.mul bd) (bc.mul bb) (by omega) (by omega)
 refine .b Try.func136 16 (fun nx K hK => ?_)
 refine .q ?_
 refine .sq fun K2 hK2 => ?_
 refine .d 11 ?_
 refine .k 4 (fun fs3 hfs3 => ?_)
 refine .f (by_fc ba bd (by omega) (by omega)) hb92 ?_
 refine .k 4 (fun fs4 hfs4 => ?_)
 refine .f (by_fc bc bb (by omega) (by omega)) hb92 ?_
 refine .f hc hb88 ?_
 refine .r 11 (by simp only[ln, hfs3, hfs4];omega) ?_
 refine hK2 _ ?_
 refine .ret ?_
 exact hK _ _ _ _ trivial (Fin.m)
end
section
attribute [local simp] idf_numI cells_numI numI_fold Rt.av Rt.cells wdI
set_option maxHeartbeats 1000000 in
theorem ratio_fc (a : Rt) (ha : a.ok) : FC Try.prog 112 [a.av] (rtA a.up.v a.down.v) := by
 
 refine .b Try.func112 10 (fun nx K hK => ?_) (hr := by simp [idfL, idf, idf_Wd', rtA, rtC])
 refine .q ?_
 refine .sq fun K2 hK2 => ?_
 refine .d 7 ?_
 refine .k 2 (fun fs3 hfs3 => ?_)
 refine .f (wideNum_fc a.up.a a.up.b a.up.c a.up.d ha.1.1 ha.1.2.1 ha.1.2.2.1 ha.1.2.2.2) hb91 ?_
 refine .k 2 (fun fs4 hfs4 => ?_)
 refine .f (wideNum_fc a.down.a a.down.b a.down.c a.down.d ha.2.1 ha.2.2.1 ha.2.2.2.1 ha.2.2.2.2) hb91 ?_
 refine .k 1 (fun fs5 hfs5 => ?_)
 refine .r 7 (by simp only[ln, hfs3, hfs4, hfs5];omega) ?_
 refine hK2 _ ?_
 refine .ret ?_
 exact hK _ _ _ _ trivial ((Fin.m).cast (by rfl))
end
section
attribute [local simp] idf_numI cells_numI numI_fold Rt.av Rt.cells rtA rtC numC
set_option maxHeartbeats 2000000 in
theorem ratioOkI_fc (a : Rt) (ha : a.ok) : FC Try.prog 111 [a.av] (.bool a.good) := by
 have hra := ratio_fc a ha
 have bU := W4.bg ha.1
 have bD := W4.bg ha.2
 have hgd : a.good = (decide (0 < a.down.v) && decide (gg a.up.v a.down.v = 1)) := by unfold Rt.good gg; congr 1; apply Bool.eq_iff_iff.2; simp; omega
 generalize a.up.v = u at *
 generalize a.down.v = d at *
 have hs1 : 0 < d → FC Try.prog 85 [numI d] (.int .i64 1) := fun h => by
   have h1 := sign_fc d
   rw [if_neg (by omega), if_pos h] at h1; exact h1
 have hs0 : ¬ 0 < d → ∃ c : Int, FC Try.prog 85 [numI d] (.int .i64 c) ∧ c ≤ 0 := fun h => ⟨_, sign_fc d, by split <;> (try split) <;> omega⟩
 have bG := gg_bg bU bD
 obtain ⟨cc, hcf, hce⟩ : ∃ c : Int, FC Try.prog 88 [numI (gg u d), numI 1] (.int .i64 c) ∧ (c == 0) = decide (gg u d = 1) := ⟨_, cmp_fc bG (Bg.i64 (n := 1) (by omega) (by omega)) (by omega) (by omega), one_cmp _⟩
 have hg2 : FC Try.prog 87 [.isl [numC u, numC d]] (numI (gg u d)) := by
   have h := gcd_fc (j := 4) [u, d] (by intro z hz; simp only [List.mem_cons, List.not_mem_nil, or_false] at hz; rcases hz with rfl | rfl <;> assumption) (by omega) (by simp)
   rw [gcdL_two] at h; exact h
 refine .b Try.func111 21 (fun nx K hK => ?_)
 refine .q ?_
 refine .sq fun K2 hK2 => ?_
 refine .region ?_
 refine .kf 1 hra hb112 ?_
 refine .e ?_
 refine hK2 _ ?_
 refine .sq fun K3 hK3 => ?_
 by_cases hw : 0 < d
 ·refine .region ?_
  refine .kf 2 (hs1 hw) hb85 ?_
  refine .k 7 ?_
  refine AOPS.frz1 15 (nx + 1 + 1) 2 [numC u, numC d] (.isl [numC u, numC d]) (by simp [numC]) (by simp [fz, numC]) ?_
  refine .f hg2 hb87 ?_
  refine .f (whole_fc 1 (by omega) (by omega)) hb89 ?_
  refine .f hcf hb88 ?_
  refine .e ?_
  refine hK3 _ ?_
  refine .ret ?_
  exact hK _ _ _ _ trivial ((Fin.m).cast (by rw [hgd]; simp [hw, hce]))
 ·obtain ⟨c0, hc0, hc1⟩ := hs0 hw
  have c1 : decide (0 < c0) = false := by simp; omega
  refine .region ?_
  refine .kf 2 hc0 hb85 ?_ (by simp (disch := first|omega|(simp only[ln];omega)) [List.take_succ_cons, List.take_zero, c1]; rfl) (ha := by simp (disch := first|omega|(simp only[ln];omega)) [idf_Wd', c1])
  refine .e ?_ (by simp (disch := first|omega|(simp only[ln];omega)) [c1]; rfl)
  refine hK3 _ ?_
  refine .ret ?_
  exact hK _ _ _ _ trivial ((Fin.m).cast (by rw [hgd]; simp [hw]))
end

end Go.Proofs.Ytmaebeknmiomnaa

/- Walks: fractions of the program: sums, products, order. -/
namespace Go.Proofs.Ytmaebeknmiomnaa
open Go Go.RowKit
set_option linter.unusedSimpArgs false
set_option linter.unusedVariables false
set_option maxRecDepth 100000
attribute [local simp] szT4 byT4 agT4 unT4 zoT4 szT24 byT24 agT24 unT24 zoT24 szT26 byT26 agT26 flT26 fdT26_0 fdT26_1 fdT26_2 fdT26_3 zoT26 szT51 byT51 agT51 flT51 fdT51_0 fdT51_1 zoT51 szT117 byT117 agT117 elT117 unT117 zoT117 szT119 byT119 agT119 flT119 fdT119_0 fdT119_1 zoT119 szT143 byT143 agT143 flT143 fdT143_0 fdT143_1 zoT143

theorem wideNum4_fc (x : W4) (hx : x.ok) : FC Try.prog 91 [wdI x.a x.b x.c x.d] (numI x.v) := wideNum_fc x.a x.b x.c x.d hx.1 hx.2.1 hx.2.2.1 hx.2.2.2

section
attribute [local simp] idf_numI cells_numI numI_fold Rt.av Rt.cells rtA rtC
set_option maxHeartbeats 2000000 in
theorem ratioCmpI_fc (a b : Rt) (ha : a.ok) (hb : b.ok) : FC Try.prog 51 [a.av, b.av] (.tup [.int .i64 (cmpF a b).1, .bool (cmpF a b).2]) := by
 have aU := W4.bg ha.1
 have aD := W4.bg ha.2
 have bU := W4.bg hb.1
 have bD := W4.bg hb.2
 have bdd := aD.mul bD
 refine .b Try.func51 19 (fun nx K hK => ?_)
 refine .q ?_
 refine .sq fun K2 hK2 => ?_
 refine .sq fun K3 hK3 => ?_
 cases hga : a.good
 ·refine .region ?_
  refine .kf 1 (ratioOkI_fc a ha) hb111 ?_ (by simp (disch := first|omega|(simp only[ln];omega)) [List.take_succ_cons, List.take_zero, hga]; rfl) (ha := by simp (disch := first|omega|(simp only[ln];omega)) [idf_Wd', hga])
  refine .e ?_ (by simp (disch := first|omega|(simp only[ln];omega)) [hga]; rfl)
  refine hK3 _ ?_
  refine .c (fun h13 => ?_) (fun h13 => ?_)
  ·try simp only[dc]at h13
   refine .q ?_
   refine .ret ?_
   exact hK _ _ _ _ trivial ((Fin.m).cast (by unfold cmpF; rw [hga]; rfl))
  ·simp at h13
 ·refine .region ?_
  refine .kf 1 (ratioOkI_fc a ha) hb111 ?_ (by simp (disch := first|omega|(simp only[ln];omega)) [List.take_succ_cons, List.take_zero, hga]; rfl) (ha := by simp (disch := first|omega|(simp only[ln];omega)) [idf_Wd', hga])
  refine .kf 3 (ratioOkI_fc b hb) hb111 ?_ (by simp (disch := first|omega|(simp only[ln];omega)) [List.take_succ_cons, List.take_zero, hga]; rfl) (ha := by simp (disch := first|omega|(simp only[ln];omega)) [idf_Wd', hga])
  refine .e ?_ (by simp (disch := first|omega|(simp only[ln];omega)) [hga]; rfl)
  refine hK3 _ ?_
  refine .c (t := !b.good) (fun h13 => ?_) (fun h13 => ?_)
  ·try simp only[dc]at h13
   have hgb : b.good = false := by simpa using h13
   refine .q ?_
   refine .ret ?_
   exact hK _ _ _ _ trivial ((Fin.m).cast (by unfold cmpF; rw [hga, hgb]; rfl))
  ·try simp only[dc]at h13
   have hgb : b.good = true := by simpa using h13
   refine .skip ?_
   refine hK2 _ ?_
   refine .sq fun K6 hK6 => ?_
   refine .d 5 ?_
   refine .k 1 (fun fs7 hfs7 => ?_)
   refine .f (ratio_fc a ha) hb112 ?_
   refine .k 1 (fun fs8 hfs8 => ?_)
   refine .f (ratio_fc b hb) hb112 ?_
   refine .f (rcmp_fc (j := 4) a.up.v a.down.v b.up.v b.down.v aU aD bU bD (by omega)) hb136 ?_
   refine .r 5 (by simp only[ln, hfs7, hfs8];omega) ?_
   refine hK6 _ ?_
   refine .ret ?_
   exact hK _ _ _ _ trivial ((Fin.m).cast (by unfold cmpF; rw [hga, hgb]; rfl))
end
section
attribute [local simp] idf_numI cells_numI numI_fold wdI
theorem wideSignI_fc (x : W4) (hx : x.ok) : FC Try.prog 52 [wdI x.a x.b x.c x.d] (.int .i64 (sg3 x.v)) := by
 have hs : FC Try.prog 85 [numI x.v] (.int .i64 (sg3 x.v)) := sign_fc x.v
 refine .b Try.func52 6 (fun nx K hK => ?_)
 refine .q ?_
 refine .sq fun K2 hK2 => ?_
 refine .region ?_
 refine .kf 1 (wideNum4_fc x (hx)) hb91 ?_
 refine .f hs hb85 ?_
 refine .e ?_
 refine hK2 _ ?_
 refine .ret ?_
 exact hK _ _ _ _ trivial (Fin.m)
end

end Go.Proofs.Ytmaebeknmiomnaa

/- Walks: fractions of the reference. -/
namespace Go.Proofs.Ytmaebeknmiomnaa
open Go Go.RowKit
set_option linter.unusedSimpArgs false
set_option linter.unusedVariables false
set_option maxRecDepth 100000
attribute [local simp] szT2 byT2 agT2 unT2 zoT2 szT4 byT4 agT4 unT4 zoT4 szT24 byT24 agT24 unT24 zoT24 szT26 byT26 agT26 flT26 fdT26_0 fdT26_1 fdT26_2 fdT26_3 zoT26 szT51 byT51 agT51 flT51 fdT51_0 fdT51_1 zoT51 szT111 byT111 agT111 elT111 unT111 zoT111 szT113 byT113 agT113 flT113 fdT113_0 fdT113_1 zoT113 szT161 byT161 agT161 flT161 fdT161_0 fdT161_1 zoT161

section
attribute [local simp] idf_numS cells_numS numS_fold
set_option maxHeartbeats 2000000 in
theorem l2Make_fc {j : Nat} (u d : Int) (hd : d ≠ 0) (bu : Bg j u) (bd : Bg j d) (hj0 : 1 ≤ j) (hj : j ≤ 16777216) : FC Try.prog 203 [numS u, numS d] (l2A (lowU u d) (lowD u d)) := by
 have hgp := gg_pos (u := u) hd
 have hg3 := gg_nrm u d
 have bG := gg_bg bu bd
 have eU : lowU u d = nrm d u / gg u d := rfl
 have eD : lowD u d = nrm d d / gg u d := rfl
 refine .b Try.func203 34 (fun nx K hK => ?_) (hr := by simp [idfL, idf, l2A, l2C, idf_Wd'])
 refine .q ?_
 refine .sq fun K2 hK2 => ?_
 have J2 : ∀ s : St, (∃ X Y : Int, X = nrm d u ∧ Y = nrm d d ∧ s.env 2 = .ptr nx 0 0 ∧ s.env 3 = .ptr (nx + 1) 0 0 ∧ s.env 4 = .ptr (nx + 1 + 1) 0 0 ∧ s.heap nx = some (2, [[.bool (decide (X < 0)), Wd .u32 (dg X)]]) ∧ s.heap (nx + 1) = some (2, [[.bool (decide (Y < 0)), Wd .u32 (dg Y)]]) ∧ s.heap (nx + 1 + 1) = some (4, [[.bool false, .nsl, .bool false, .nsl]]) ∧ nx + 1 + 1 < s.nx ∧ s.nt = 34) → K2 s := by
  rintro ⟨e, H, mm, nt⟩ ⟨X, Y, hX, hY, h2, h3, h4, hA, hB, hD, hm, rfl⟩
  simp only [] at h2 h3 h4 hA hB hD hm
  rw [← hX] at hg3 eU
  rw [← hY] at hg3 eD
  have cX : Bg j X := by rw [hX]; exact bu.nrm
  have cY : Bg j Y := by rw [hY]; exact bd.nrm
  have hg2 : FC Try.prog 169 [numS X, numS Y] (numS (gg u d)) := by
    have h := l1Gcd_fc X Y cX cY hj
    rw [← hg3]; exact h
  obtain ⟨cc, hcf, hce⟩ : ∃ c : Int, FC Try.prog 168 [numS (gg u d), numS 1] (.int .i64 c) ∧ (c == 0) = decide (gg u d = 1) := ⟨_, l1Cmp_fc bG (Bg.i64 (n := 1) (by omega) (by omega)) (by omega) (by omega), one_cmp _⟩
  generalize hgg : gg u d = g at *
  refine hK2 _ ?_
  refine .sq fun K3 hK3 => ?_
  refine .region ?_
  refine .kf 2 hg2 hb169 ?_ (by simp (disch := first|omega|(simp only[ln];omega)) [List.take_succ_cons, List.take_zero, h2, h3, hA, hB, Nat.ne_of_lt hm]; rfl) (ha := by simp (disch := first|omega|(simp only[ln];omega)) [idf_Wd', h2, h3, hA, hB, Nat.ne_of_lt hm])
  refine .e ?_ (by simp (disch := first|omega|(simp only[ln];omega)) [h2, h3, hA, hB, Nat.ne_of_lt hm]; rfl)
  refine hK3 _ ?_
  refine .sq fun K4 hK4 => ?_
  refine .sq fun K5 hK5 => ?_
  refine .d 4 ?_
  refine .k 1 (fun fs6 hfs6 => ?_)
  refine .f (l1Int_fc 1 (by omega) (by omega)) hb106 ?_
  refine .f hcf hb168 ?_
  refine .k 1 (fun fs7 hfs7 => ?_)
  refine .r 4 (by simp only[ln, hfs6, hfs7];omega) ?_
  refine hK5 _ ?_
  refine .c (t := !decide (g = 1)) (fun h18 => ?_) (fun h18 => ?_) (by simp (disch := first|omega|(simp only[ln];omega)) [bne, hce])
  ·try simp only[dc]at h18
   refine .sq fun K8 hK8 => ?_
   refine .region ?_
   refine .kf 2 (l1Div_fc X g (by omega) cX bG hj) hb194 ?_ (by simp (disch := first|omega|(simp only[ln];omega)) [List.take_succ_cons, List.take_zero, h2, hA]; rfl) (ha := by simp (disch := first|omega|(simp only[ln];omega)) [idf_Wd', h2, hA])
   refine .e ?_ (by simp (disch := first|omega|(simp only[ln];omega)) [h2, hA]; rfl)
   refine hK8 _ ?_
   refine .region ?_
   refine .kf 2 (l1Div_fc Y g (by omega) cY bG hj) hb194 ?_ (by simp (disch := first|omega|(simp only[ln];omega)) [List.take_succ_cons, List.take_zero, h3, hB]; rfl) (ha := by simp (disch := first|omega|(simp only[ln];omega)) [idf_Wd', h3, hB])
   refine .e ?_ (by simp (disch := first|omega|(simp only[ln];omega)) [h3, hB]; rfl)
   refine hK4 _ ?_
   refine .q ?_ (by simp (disch := first|omega|(simp only[ln];omega)) [h2, h3, h4, hD]; rfl)
   refine .ret ?_
   exact hK _ _ _ _ trivial ((Fin.mk (by simp (disch := omega) [aRes, aResL, aRes1, h4]; rfl)).cast (by rw [eU, eD]; rfl))
  ·try simp only[dc]at h18
   have hg1 : g = 1 := by simpa using h18
   refine .skip ?_
   refine hK4 _ ?_
   refine .q ?_ (by simp (disch := first|omega|(simp only[ln];omega)) [h2, h3, h4, hA, hB, hD]; rfl)
   refine .ret ?_
   exact hK _ _ _ _ trivial ((Fin.mk (by simp (disch := omega) [aRes, aResL, aRes1, h4]; rfl)).cast (by rw [eU, eD, hg1, Int.ediv_one, Int.ediv_one]; rfl))
 refine .q ?_
 refine .c (t := decide (d < 0)) (fun h7 => ?_) (fun h7 => ?_)
 ·try simp only[dc]at h7
  refine .old fun hold => ?_
  refine .d 4 ?_
  refine .k 1 (fun fs12 hfs12 => ?_)
  refine .f (l1Neg_fc u) hb193 ?_
  refine DP.runF1q (by simp (disch := first|omega|(simp only[ln];omega)) [runDf.eq_def, runF1, runF2, stepF.eq_def, updo.eq_def, hupo.eq_def, opSto1.eq_def]; rfl) fun fq13 hfq13 => ?_
  simp [qids, asksB, Op.operands, topId] at hfq13
  simp only [updo]
  refine .f (l1Neg_fc d) hb193 ?_
  refine DQ.sto1 (m := 4) [2] _ (by simp (disch := first|omega|(simp only[ln];omega)) [runDf.eq_def, runF1, runF2, stepF.eq_def, updo.eq_def, hupo.eq_def, opSto1.eq_def]; rfl) rfl (by simp only[ln, hfs12];omega) (by kernel_rfl) (by intro k f hk hex; simp only [List.mem_cons, List.not_mem_nil, or_false] at hex; rcases hex with rfl <;> (simp [List.getElem?_append, hfs12] at hk; subst hk; refine ⟨?_, by first | omega | (simp; done) | (simp; omega)⟩; simp [qids, asksB, Op.operands, Call.operands, topId, numS, numI, Wd, hfq13]; try omega)) ?_
  try simp only []
  refine DQ.sto1 (m := 4) [] _ (by simp (disch := first|omega|(simp only[ln];omega)) [runDf.eq_def, runF1, runF2, stepF.eq_def, updo.eq_def, hupo.eq_def, opSto1.eq_def]; rfl) rfl (by simp only[ln, hfs12];omega) (by kernel_rfl) (by intro k f hk hex; simp only [List.not_mem_nil] at hex) ?_
  try simp only []
  refine J2 _ ?_
  exact ⟨-u, -d, by simp [nrm, h7], by simp [nrm, h7], by simp, by simp, by simp, by simp (disch := omega), by simp (disch := omega), by simp (disch := omega), by simp, rfl⟩
 ·try simp only[dc]at h7
  refine .skip ?_
  refine J2 _ ?_
  exact ⟨u, d, by simp [nrm, h7], by simp [nrm, h7], by simp, by simp, by simp, by simp (disch := omega), by simp (disch := omega), by simp (disch := omega), by simp, rfl⟩
end
section
attribute [local simp] idf_numS cells_numS numS_fold l2A l2C
set_option maxHeartbeats 2000000 in
theorem l2Ratio_fc {j : Nat} (u d : Int) (hd : d ≠ 0) (bu : Bg j u) (bd : Bg j d) (hj : j ≤ 16777216) : FC Try.prog 132 [l2A (lowU u d) (lowD u d)] (.tup [.agg [.int .u64 ((told u d).1).up.a, .int .u64 ((told u d).1).up.b, .int .u64 ((told u d).1).up.c, .int .u64 ((told u d).1).up.d, .int .u64 ((told u d).1).down.a, .int .u64 ((told u d).1).down.b, .int .u64 ((told u d).1).down.c, .int .u64 ((told u d).1).down.d], .bool (told u d).2]) := by
 have w1 := l1Wide_fc (lowU_bg (u := u) hd bu) (by omega)
 have w2 := l1Wide_fc (lowD_bg (u := u) hd bd) (by omega)
 rw [wdT_l] at w1 w2
 unfold W4.l at w1 w2
 have ht := told_fit (u := u) hd
 refine .b Try.func132 30 (fun nx K hK => ?_)
 refine .q ?_
 refine .sq fun K2 hK2 => ?_
 refine .region ?_
 refine .kf 2 w1 hb192 ?_
 refine .e ?_
 refine hK2 _ ?_
 refine .sq fun K3 hK3 => ?_
 refine .region ?_
 refine .kf 2 w2 hb192 ?_
 refine .e ?_
 refine hK3 _ ?_
 refine .sq fun K4 hK4 => ?_
 refine .sq fun K5 hK5 => ?_
 cases hf : fits (lowU u d)
 ·refine .r ?_ (by simp (disch := first|omega|(simp only[ln];omega)) [hf]; rfl)
  refine hK5 _ ?_
  refine .c (fun h25 => ?_) (fun h25 => ?_)
  ·try simp only[dc]at h25
   refine .q ?_
   refine .ret ?_
   exact hK _ _ _ _ trivial ((Fin.m).cast (by rw [ht, hf]; rfl))
  ·simp at h25
 ·refine .r ?_ (by simp (disch := first|omega|(simp only[ln];omega)) [hf]; rfl)
  refine hK5 _ ?_
  refine .c (t := !fits (lowD u d)) (fun h25 => ?_) (fun h25 => ?_)
  ·try simp only[dc]at h25
   have hf2 : fits (lowD u d) = false := by simpa using h25
   refine .q ?_
   refine .ret ?_
   exact hK _ _ _ _ trivial ((Fin.m).cast (by rw [ht, hf, hf2]; rfl))
  ·try simp only[dc]at h25
   have hf2 : fits (lowD u d) = true := by simpa using h25
   refine .skip ?_
   refine hK4 _ ?_
   refine .q ?_
   refine .ret ?_
   exact hK _ _ _ _ trivial ((Fin.m).cast (by rw [ht, hf, hf2]; rfl))
end

end Go.Proofs.Ytmaebeknmiomnaa

/- Walks: FnRatioSums, walked. -/
namespace Go.Proofs.Ytmaebeknmiomnaa
open Go Go.RowKit
set_option linter.unusedSimpArgs false
set_option linter.unusedVariables false
set_option maxRecDepth 100000


theorem eqRt (p q : Rt) : eqW Try.prog 8 51 [.int .u64 p.up.a, .int .u64 p.up.b, .int .u64 p.up.c, .int .u64 p.up.d, .int .u64 p.down.a, .int .u64 p.down.b, .int .u64 p.down.c, .int .u64 p.down.d] [.int .u64 q.up.a, .int .u64 q.up.b, .int .u64 q.up.c, .int .u64 q.up.d, .int .u64 q.down.a, .int .u64 q.down.b, .int .u64 q.down.c, .int .u64 q.down.d] = some (decide (p = q)) := by
  have hs : Try.prog.stoodInHeld 51 = false := by kernel_rfl
  have hz : szOf Try.prog 26 = some 4 := by kernel_rfl
  have ha : aggT Try.prog 26 = some true := by kernel_rfl
  unfold eqW
  simp only [Try.underlying51, hs]
  simp [eqF, hz, ha, eqW4n]
  obtain ⟨⟨a1, a2, a3, a4⟩, ⟨b1, b2, b3, b4⟩⟩ := p
  obtain ⟨⟨d1, d2, d3, d4⟩, ⟨e1, e2, e3, e4⟩⟩ := q
  rw [Bool.eq_iff_iff]
  simp [Rt.mk.injEq, W4.mk.injEq, and_assoc]



end Go.Proofs.Ytmaebeknmiomnaa

/- Walks: spots and segments. -/
namespace Go.Proofs.Ytmaebeknmiomnaa
open Go Go.RowKit
set_option linter.unusedSimpArgs false
set_option linter.unusedVariables false
set_option maxRecDepth 100000
attribute [local simp] szT2 byT2 agT2 unT2 zoT2 szT3 byT3 agT3 unT3 zoT3 szT26 byT26 agT26 flT26 fdT26_0 fdT26_1 fdT26_2 fdT26_3 zoT26 szT28 byT28 agT28 flT28 fdT28_0 fdT28_1 fdT28_2 zoT28 szT67 byT67 agT67 flT67 fdT67_0 fdT67_1 zoT67 szT69 byT69 agT69 flT69 fdT69_0 fdT69_1 zoT69 szT134 byT134 agT134 flT134 fdT134_0 fdT134_1 zoT134 szT136 byT136 agT136 flT136 fdT136_0 fdT136_1 zoT136

theorem eqW2 (p q : Sp) : eqW Try.prog 8 67 [.int .i64 p.x, .int .i64 p.y] [.int .i64 q.x, .int .i64 q.y] = some (decide (p = q)) := by
  obtain ⟨a, b⟩ := p
  obtain ⟨a', b'⟩ := q
  have hs : Try.prog.stoodInHeld 67 = false := by kernel_rfl
  have hz : szOf Try.prog 2 = some 1 := by kernel_rfl
  have ha : aggT Try.prog 2 = some false := by kernel_rfl
  have e1 : ∀ (n : Nat) (x y : Int), eqW Try.prog (n + 1) 2 [.int .i64 x] [.int .i64 y] = some (x == y) := fun n x y => by
    unfold eqW
    simp only [Try.underlying2]
    first | rfl | simp [eqF]
  unfold eqW
  simp only [Try.underlying67, hs]
  simp [eqF, hz, ha, e1]
  rw [Bool.eq_iff_iff]
  simp
theorem lsS_dec (p q : Sp) : decide (cmS p q < 0) = lsS p q := by rw [Bool.eq_iff_iff, decide_eq_true_eq]; exact cmS_neg
theorem wdZ_l {n : Int} (hf : fits n = true) : wdZ n = .agg (W4z n).l := by
  have e := wdT_l n
  unfold wdT at e
  rw [if_pos hf] at e; exact e
theorem wideOf4_fc (n : Int) (h1 : -9223372036854775808 ≤ n) (h2 : n ≤ 9223372036854775807) (hf : fits n = true) : FC Try.prog 20 [.int .i64 n] (.agg [.int .u64 (W4z n).a, .int .u64 (W4z n).b, .int .u64 (W4z n).c, .int .u64 (W4z n).d]) := by
  have h := wideOf_fc n h1 h2
  rw [wdZ_l hf] at h; exact h
theorem inM_fits {x : Int} (h : inM x = true) : fits x = true := by
  have := inM_b h; unfold fits; simp; omega
theorem sm1 {x y : Int} (hx : inM x = true) (hy : inM y = true) : sm x y 1 = true := by
  have := inM_b hx; have := inM_b hy
  have e : (2 : Nat) ^ 80 = 1208925819614629174706176 := by decide
  simp only [sm, Bool.and_eq_true, decide_eq_true_eq, bitLen_le, e]; omega

theorem within_fc (n a b : Int) : FC Try.prog 135 [.int .i64 n, .int .i64 a, .int .i64 b] (.bool (decide (a ≤ n) && decide (n ≤ b))) := by
 refine .b Try.func135 15 (fun nx K hK => ?_)
 refine .q ?_
 refine .sq fun K2 hK2 => ?_
 cases h : decide (a ≤ n)
 ·refine .r ?_ (by simp (disch := first|omega|(simp only[ln];omega)) [h]; rfl)
  refine hK2 _ ?_
  refine .ret ?_
  exact hK _ _ _ _ trivial ((Fin.m).cast (by rw [h]; rfl))
 ·refine .r ?_ (by simp (disch := first|omega|(simp only[ln];omega)) [h]; rfl)
  refine hK2 _ ?_
  refine .ret ?_
  exact hK _ _ _ _ trivial ((Fin.m).cast (by rw [h]; rfl))
theorem withinM_fc (n : Int) : FC Try.prog 135 [.int .i64 n, .int .i64 (-1000000), .int .i64 1000000] (.bool (inM n)) := within_fc n (-1000000) 1000000
section
attribute [local simp] Sp.av Sp.cells Sg.av Sg.cells
theorem spotOkI_fc (p : Sp) : FC Try.prog 49 [p.av] (.bool p.good) := by
 refine .b Try.func49 11 (fun nx K hK => ?_) (hi := by simp [idfL, idf, Sp.av, Sp.cells, Sg.av, Sg.cells])
 refine .q ?_
 refine .sq fun K2 hK2 => ?_
 cases hx : inM p.x
 ·refine .region ?_
  refine .kf 2 (withinM_fc p.x) hb135 ?_ (by simp (disch := first|omega|(simp only[ln];omega)) [List.take_succ_cons, List.take_zero, hx]; rfl) (ha := by simp (disch := first|omega|(simp only[ln];omega)) [idf_Wd', hx])
  refine .e ?_ (by simp (disch := first|omega|(simp only[ln];omega)) [hx]; rfl)
  refine hK2 _ ?_
  refine .ret ?_
  exact hK _ _ _ _ trivial ((Fin.m).cast (by unfold Sp.good; rw [hx]; rfl))
 ·refine .region ?_
  refine .kf 2 (withinM_fc p.x) hb135 ?_ (by simp (disch := first|omega|(simp only[ln];omega)) [List.take_succ_cons, List.take_zero, hx]; rfl) (ha := by simp (disch := first|omega|(simp only[ln];omega)) [idf_Wd', hx])
  refine .kf 3 (withinM_fc p.y) hb135 ?_ (by simp (disch := first|omega|(simp only[ln];omega)) [List.take_succ_cons, List.take_zero, hx]; rfl) (ha := by simp (disch := first|omega|(simp only[ln];omega)) [idf_Wd', hx])
  refine .e ?_ (by simp (disch := first|omega|(simp only[ln];omega)) [hx]; rfl)
  refine hK2 _ ?_
  refine .ret ?_
  exact hK _ _ _ _ trivial ((Fin.m).cast (by unfold Sp.good; rw [hx]; rfl))
theorem cmpSpots_fc (p q : Sp) : FC Try.prog 134 [p.av, q.av] (.int .i64 (cmS p q)) := by
 refine .b Try.func134 29 (fun nx K hK => ?_) (hi := by simp [idfL, idf, Sp.av, Sp.cells, Sg.av, Sg.cells])
 refine .q ?_
 refine .sq fun K2 hK2 => ?_
 refine .block ?_
 refine .q ?_ (by simp (disch := first|omega|(simp only[ln];omega)) [eqW2]; rfl)
 refine .c (t := decide (p = q)) (fun h5 => ?_) (fun h5 => ?_)
 ·try simp only[dc]at h5
  refine .q ?_
  refine .ret ?_
  exact hK _ _ _ _ trivial ((Fin.m).cast (by unfold cmS; rw [if_pos h5]))
 ·try simp only[dc]at h5
  have hv : cmS p q = if lsS p q = true then -1 else 1 := by unfold cmS; rw [if_neg h5]
  refine .sq fun K5 hK5 => ?_
  by_cases q1 : p.x < q.x
  ·have hl : lsS p q = true := by simp [lsS, q1]
   have c1 : decide (p.x < q.x) = true := by simp [q1]
   refine .r ?_ (by simp (disch := first|omega|(simp only[ln];omega)) [c1]; rfl)
   refine hK5 _ ?_
   refine .c (fun h9 => ?_) (fun h9 => ?_)
   ·try simp only[dc]at h9
    refine .q ?_
    refine .ret ?_
    exact hK _ _ _ _ trivial ((Fin.m).cast (by rw [hv, hl]; rfl))
   ·simp at h9
  ·have c1 : decide (p.x < q.x) = false := by simp; omega
   by_cases q2 : p.x = q.x
   ·have c2 : (p.x == q.x) = true := by simp [q2]
    refine .r ?_ (by simp (disch := first|omega|(simp only[ln];omega)) [c1, c2]; rfl)
    refine hK5 _ ?_
    refine .c (t := decide (p.y < q.y)) (fun h9 => ?_) (fun h9 => ?_)
    ·try simp only[dc]at h9
     refine .q ?_
     refine .ret ?_
     exact hK _ _ _ _ trivial ((Fin.m).cast (by rw [hv, show lsS p q = true by simp [lsS, q2, h9]]; rfl))
    ·try simp only[dc]at h9
     refine .skip ?_
     refine hK2 _ ?_
     refine .q ?_
     refine .ret ?_
     exact hK _ _ _ _ trivial ((Fin.m).cast (by rw [hv, show lsS p q = false by simp [lsS, q2]; omega]; rfl))
   ·have c2 : (p.x == q.x) = false := by simp [q2]
    refine .r ?_ (by simp (disch := first|omega|(simp only[ln];omega)) [c1, c2]; rfl)
    refine hK5 _ ?_
    refine .c (fun h9 => ?_) (fun h9 => ?_)
    ·simp at h9
    ·try simp only[dc]at h9
     refine .skip ?_
     refine hK2 _ ?_
     refine .q ?_
     refine .ret ?_
     exact hK _ _ _ _ trivial ((Fin.m).cast (by rw [hv, show lsS p q = false by simp [lsS, q2]; omega]; rfl))
theorem segOkI_fc (s : Sg) : FC Try.prog 48 [s.av] (.bool s.good) := by
 refine .b Try.func48 19 (fun nx K hK => ?_) (hi := by simp [idfL, idf, Sp.av, Sp.cells, Sg.av, Sg.cells])
 refine .q ?_
 refine .sq fun K2 hK2 => ?_
 cases ha : s.a.good
 ·refine .region ?_
  refine .kf 2 (spotOkI_fc s.a) hb49 ?_ (by simp (disch := first|omega|(simp only[ln];omega)) [List.take_succ_cons, List.take_zero, ha]; rfl) (ha := by simp (disch := first|omega|(simp only[ln];omega)) [idf_Wd', ha])
  refine .e ?_ (by simp (disch := first|omega|(simp only[ln];omega)) [ha]; rfl)
  refine hK2 _ ?_
  refine .ret ?_
  exact hK _ _ _ _ trivial ((Fin.m).cast (by unfold Sg.good; rw [ha]; rfl))
 ·cases hb : s.b.good
  ·refine .region ?_
   refine .kf 2 (spotOkI_fc s.a) hb49 ?_ (by simp (disch := first|omega|(simp only[ln];omega)) [List.take_succ_cons, List.take_zero, ha, hb]; rfl) (ha := by simp (disch := first|omega|(simp only[ln];omega)) [idf_Wd', ha, hb])
   refine .kf 3 (spotOkI_fc s.b) hb49 ?_ (by simp (disch := first|omega|(simp only[ln];omega)) [List.take_succ_cons, List.take_zero, ha, hb]; rfl) (ha := by simp (disch := first|omega|(simp only[ln];omega)) [idf_Wd', ha, hb])
   refine .e ?_ (by simp (disch := first|omega|(simp only[ln];omega)) [ha, hb]; rfl)
   refine hK2 _ ?_
   refine .ret ?_
   exact hK _ _ _ _ trivial ((Fin.m).cast (by unfold Sg.good; rw [ha, hb]; rfl))
  ·refine .region ?_
   refine .kf 2 (spotOkI_fc s.a) hb49 ?_ (by simp (disch := first|omega|(simp only[ln];omega)) [List.take_succ_cons, List.take_zero, ha, hb, lsS_dec]; rfl) (ha := by simp (disch := first|omega|(simp only[ln];omega)) [idf_Wd', ha, hb, lsS_dec])
   refine .kf 3 (spotOkI_fc s.b) hb49 ?_ (by simp (disch := first|omega|(simp only[ln];omega)) [List.take_succ_cons, List.take_zero, ha, hb, lsS_dec]; rfl) (ha := by simp (disch := first|omega|(simp only[ln];omega)) [idf_Wd', ha, hb, lsS_dec])
   refine .kf 6 (cmpSpots_fc s.a s.b) hb134 ?_ (by simp (disch := first|omega|(simp only[ln];omega)) [List.take_succ_cons, List.take_zero, ha, hb, lsS_dec]; rfl) (ha := by simp (disch := first|omega|(simp only[ln];omega)) [idf_Wd', ha, hb, lsS_dec])
   refine .e ?_ (by simp (disch := first|omega|(simp only[ln];omega)) [ha, hb, lsS_dec]; rfl)
   refine hK2 _ ?_
   refine .ret ?_
   exact hK _ _ _ _ trivial ((Fin.m).cast (by unfold Sg.good; rw [ha, hb]; rfl))
set_option maxHeartbeats 1000000 in
theorem cross_fc (a b c : Sp) (ha : a.good = true) (hb : b.good = true) (hc : c.good = true) : FC Try.prog 187 [a.av, b.av, c.av] (.int .i64 (crs a b c)) := by
 have pa := Sp.b ha
 have pb := Sp.b hb
 have pc := Sp.b hc
 have m1 := mul_b (u := b.x - a.x) (v := c.y - a.y) (m := 2000000) (n := 2000000) (by omega) (by omega) (by omega) (by omega) (by omega)
 have m2 := mul_b (u := b.y - a.y) (v := c.x - a.x) (m := 2000000) (n := 2000000) (by omega) (by omega) (by omega) (by omega) (by omega)
 refine .b Try.func187 30 (fun nx K hK => ?_) (hi := by simp [idfL, idf, Sp.av, Sp.cells, Sg.av, Sg.cells])
 refine .q ?_
 refine .q ?_
 refine .ret ?_
 exact hK _ _ _ _ trivial ((Fin.m).cast (by rfl))
end
section
attribute [local simp] Sp.av Sp.cells Sg.av Sg.cells
theorem pointOfI_fc (p : Sp) (hp : p.good = true) : FC Try.prog 50 [p.av] (.agg [.int .u64 (ptS p).x.a, .int .u64 (ptS p).x.b, .int .u64 (ptS p).x.c, .int .u64 (ptS p).x.d, .int .u64 (ptS p).y.a, .int .u64 (ptS p).y.b, .int .u64 (ptS p).y.c, .int .u64 (ptS p).y.d, .int .u64 (ptS p).w.a, .int .u64 (ptS p).w.b, .int .u64 (ptS p).w.c, .int .u64 (ptS p).w.d]) := by
 have pb := Sp.b hp
 have hx : inM p.x = true := by simp [inM]; omega
 have hy : inM p.y = true := by simp [inM]; omega
 have hs := sm1 hx hy
 refine .b Try.func50 11 (fun nx K hK => ?_) (hi := by simp [idfL, idf, Sp.av, Sp.cells, Sg.av, Sg.cells])
 refine .q ?_
 refine .sq fun K2 hK2 => ?_
 refine .d 8 ?_
 refine .k 2 (fun fs3 hfs3 => ?_)
 refine .f (wideOf4_fc p.x (by omega) (by omega) (inM_fits hx)) hb20 ?_
 refine .k 2 (fun fs4 hfs4 => ?_)
 refine .f (wideOf4_fc p.y (by omega) (by omega) (inM_fits hy)) hb20 ?_
 refine .f (wideOf4_fc 1 (by omega) (by omega) (by decide)) hb20 ?_
 refine .k 1 (fun fs5 hfs5 => ?_)
 refine .r 8 (by simp only[ln, hfs3, hfs4, hfs5];omega) ?_
 refine hK2 _ ?_
 refine .ret ?_
 exact hK _ _ _ _ trivial ((Fin.m).cast (by rw [ptS, pt3, if_pos hs]))
end

end Go.Proofs.Ytmaebeknmiomnaa

/- Walks: where segments meet, by the program. -/
namespace Go.Proofs.Ytmaebeknmiomnaa
open Go Go.RowKit
set_option linter.unusedSimpArgs false
set_option linter.unusedVariables false
set_option maxRecDepth 100000
attribute [local simp] szT2 byT2 agT2 unT2 zoT2 szT4 byT4 agT4 unT4 zoT4 szT24 byT24 agT24 unT24 zoT24 szT26 byT26 agT26 flT26 fdT26_0 fdT26_1 fdT26_2 fdT26_3 zoT26 szT28 byT28 agT28 flT28 fdT28_0 fdT28_1 fdT28_2 zoT28 szT117 byT117 agT117 elT117 unT117 zoT117 szT119 byT119 agT119 flT119 fdT119_0 fdT119_1 zoT119 szT121 byT121 agT121 flT121 fdT121_0 fdT121_1 fdT121_2 zoT121 szT200 byT200 agT200 elT200 unT200 zoT200

theorem max_sm2 (x y w : Int) : decide (80 < (if (if bitLen x.natAbs < bitLen y.natAbs then (bitLen y.natAbs : Int) else (bitLen x.natAbs : Int)) < (bitLen w.natAbs : Int) then (bitLen w.natAbs : Int) else if bitLen x.natAbs < bitLen y.natAbs then (bitLen y.natAbs : Int) else (bitLen x.natAbs : Int))) = !sm x y w := by
  rw [← max_sm]
  generalize (if (if bitLen x.natAbs < bitLen y.natAbs then (bitLen y.natAbs : Int) else (bitLen x.natAbs : Int)) < (bitLen w.natAbs : Int) then (bitLen w.natAbs : Int) else if bitLen x.natAbs < bitLen y.natAbs then (bitLen y.natAbs : Int) else (bitLen x.natAbs : Int)) = m
  rw [Bool.eq_iff_iff]; simp
theorem gcd3_x (x y w : Int) : gcd3 x y w ∣ x := Int.dvd_trans (by unfold gcd3; exact Int.ofNat_dvd.2 (Nat.gcd_dvd_left _ _)) (Int.gcd_dvd_left (a := x) (b := y))
theorem gcd3_y (x y w : Int) : gcd3 x y w ∣ y := Int.dvd_trans (by unfold gcd3; exact Int.ofNat_dvd.2 (Nat.gcd_dvd_left _ _)) (Int.gcd_dvd_right (a := x) (b := y))
theorem gcd3_w (x y w : Int) : gcd3 x y w ∣ w := by unfold gcd3; exact Int.dvd_natAbs.1 (Int.ofNat_dvd.2 (Nat.gcd_dvd_right _ _))
theorem div_nrm {x y w z g : Int} (hg : gcd3 x y w = g) (hz : g ∣ z) : z / (if w < 0 then -g else g) = nrm w z / g := by
  unfold nrm; split
  · rw [Int.ediv_neg, Int.neg_ediv_of_dvd hz]
  · rfl

section
attribute [local simp] idf_numI cells_numI numI_fold spA spC numC
set_option maxHeartbeats 4000000 in
theorem spotPoint_fc {j : Nat} (x y w : Int) (bx : Bg j x) (bY : Bg j y) (bw : Bg j w) (hj : j ≤ 16777216) : FC Try.prog 93 [spA x y w] (.tup [.agg [.int .u64 (mkP x y w).x.a, .int .u64 (mkP x y w).x.b, .int .u64 (mkP x y w).x.c, .int .u64 (mkP x y w).x.d, .int .u64 (mkP x y w).y.a, .int .u64 (mkP x y w).y.b, .int .u64 (mkP x y w).y.c, .int .u64 (mkP x y w).y.d, .int .u64 (mkP x y w).w.a, .int .u64 (mkP x y w).w.b, .int .u64 (mkP x y w).w.c, .int .u64 (mkP x y w).w.d], .bool (mkB x y w)]) := by
 obtain ⟨cs, hsf, hse⟩ : ∃ c : Int, FC Try.prog 85 [numI w] (.int .i64 c) ∧ (c == 0) = decide (w = 0) := ⟨_, sign_fc w, by
   by_cases h : w = 0
   · subst h; rfl
   · have : (if w < 0 then (-1 : Int) else if w > 0 then 1 else 0) ≠ 0 := by split <;> (try split) <;> omega
     rw [beq_eq_false_iff_ne.2 this]; simp [h]⟩
 refine .b Try.func93 80 (fun nx K hK => ?_)
 refine .q ?_
 refine .sq fun K2 hK2 => ?_
 refine .sq fun K3 hK3 => ?_
 refine .region ?_
 refine .kf 2 hsf hb85 ?_
 refine .e ?_
 refine hK3 _ ?_
 refine .c (t := decide (w = 0)) (fun h15 => ?_) (fun h15 => ?_) (by simp (disch := first|omega|(simp only[ln];omega)) [hse])
 ·try simp only[dc]at h15
  refine .q ?_
  refine .ret ?_
  exact hK _ _ _ _ trivial ((Fin.m).cast (by unfold mkP mkB; rw [if_pos h15, if_pos h15]; rfl))
 ·try simp only[dc]at h15
  have hw : w ≠ 0 := h15
  have hgp := gcd3_pos (x := x) (y := y) hw
  have hgx := gcd3_x x y w
  have hgy := gcd3_y x y w
  have hgw := gcd3_w x y w
  have eP : mkP x y w = pt3 (nrm w x / gcd3 x y w) (nrm w y / gcd3 x y w) (nrm w w / gcd3 x y w) := by unfold mkP; rw [if_neg hw]
  have eB : mkB x y w = sm (nrm w x / gcd3 x y w) (nrm w y / gcd3 x y w) (nrm w w / gcd3 x y w) := by unfold mkB; rw [if_neg hw]
  have bG : Bg j (gcd3 x y w) := by
    have b1 : Bg j ((Int.gcd x y : Nat) : Int) := Bg.gcd bx.abs bY.abs
    exact Bg.gcd b1 bw.abs
  have hg2 : FC Try.prog 87 [.isl [numC x, numC y, numC w]] (numI (gcd3 x y w)) := by
    have h := gcd_fc (j := j) [x, y, w] (by intro z hz; simp only [List.mem_cons, List.not_mem_nil, or_false] at hz; rcases hz with rfl | rfl | rfl <;> assumption) (by omega) (by simp)
    rw [gcdL_three] at h; exact h
  generalize hgg : gcd3 x y w = g at *
  have bX := (bx.nrm (w := w)).div hgp
  have bYY := (bY.nrm (w := w)).div hgp
  have bW := (bw.nrm (w := w)).div hgp
  refine .skip ?_
  refine hK2 _ ?_
  refine .sq fun K5 hK5 => ?_
  refine .region ?_
  refine .k 7 ?_
  refine AOPS.frz1 23 (nx + 1 + 1) 2 [numC x, numC y, numC w] (.isl [numC x, numC y, numC w]) (by simp [numC]) (by simp [fz, numC]) ?_
  refine .f hg2 hb87 ?_
  refine .e ?_
  refine hK5 _ ?_
  refine .sq fun K6 hK6 => ?_
  have J6 : ∀ s : St, (∃ D : Int, D = (if w < 0 then -g else g) ∧ s.env 1 = .ptr nx 0 0 ∧ s.env 2 = .ptr (nx + 1) 0 0 ∧ s.env 4 = .ptr (nx + 1 + 1 + 1) 0 0 ∧ s.env 3 = .bool false ∧ s.heap nx = some (6, [[.bool (decide (x < 0)), Wd .u64 (mag x), .bool (decide (y < 0)), Wd .u64 (mag y), .bool (decide (w < 0)), Wd .u64 (mag w)]]) ∧ s.heap (nx + 1) = some (12, [[.int .u64 0, .int .u64 0, .int .u64 0, .int .u64 0, .int .u64 0, .int .u64 0, .int .u64 0, .int .u64 0, .int .u64 0, .int .u64 0, .int .u64 0, .int .u64 0]]) ∧ s.heap (nx + 1 + 1 + 1) = some (2, [[.bool (decide (D < 0)), Wd .u64 (mag (D))]]) ∧ nx + 1 + 1 + 1 < s.nx ∧ s.nt = 80) → K6 s := by
   rintro ⟨e, H, mm, nt⟩ ⟨D, hD, h1, h2, h4, h3, hA, hB, hC, hm, rfl⟩
   simp only [] at h1 h2 h4 h3 hA hB hC hm
   have dX := div_nrm hgg hgx
   have dY := div_nrm hgg hgy
   have dW := div_nrm hgg hgw
   rw [← hD] at dX dY dW
   have bD : Bg j D := by rw [hD]; split; exact bG.neg; exact bG
   have hDn : D ≠ 0 := by rw [hD]; split <;> omega
   have ox := over_fc x D hDn bx bD hj
   have oy := over_fc y D hDn bY bD hj
   have ow := over_fc w D hDn bw bD hj
   rw [dX] at ox
   rw [dY] at oy
   rw [dW] at ow
   generalize nrm w x / g = X at *
   generalize nrm w y / g = Y at *
   generalize nrm w w / g = W at *
   have hms := max_sm2 X Y W
   have w1 := wide_fc bX (by omega)
   have w2 := wide_fc bYY (by omega)
   have w3 := wide_fc bW (by omega)
   rw [wdT_l] at w1 w2 w3
   unfold W4.l at w1 w2 w3
   clear dX dY dW
   refine hK6 _ ?_
   refine .sq fun K7 hK7 => ?_
   refine .region ?_
   refine .kf 3 ox hb180 ?_ (by simp (disch := first|omega|(simp only[ln];omega)) [List.take_succ_cons, List.take_zero, h1, h4, hA, hC]; rfl) (ha := by simp (disch := first|omega|(simp only[ln];omega)) [idf_Wd', h1, h4, hA, hC])
   refine .e ?_ (by simp (disch := first|omega|(simp only[ln];omega)) [h1, h4, hA, hC]; rfl)
   refine hK7 _ ?_
   refine .sq fun K8 hK8 => ?_
   refine .region ?_
   refine .kf 3 oy hb180 ?_ (by simp (disch := first|omega|(simp only[ln];omega)) [List.take_succ_cons, List.take_zero, h1, h4, hA, hC]; rfl) (ha := by simp (disch := first|omega|(simp only[ln];omega)) [idf_Wd', h1, h4, hA, hC])
   refine .e ?_ (by simp (disch := first|omega|(simp only[ln];omega)) [h1, h4, hA, hC]; rfl)
   refine hK8 _ ?_
   refine .sq fun K9 hK9 => ?_
   refine .region ?_
   refine .kf 3 ow hb180 ?_ (by simp (disch := first|omega|(simp only[ln];omega)) [List.take_succ_cons, List.take_zero, h1, h4, hA, hC]; rfl) (ha := by simp (disch := first|omega|(simp only[ln];omega)) [idf_Wd', h1, h4, hA, hC])
   refine .e ?_ (by simp (disch := first|omega|(simp only[ln];omega)) [h1, h4, hA, hC]; rfl)
   refine hK9 _ ?_
   refine .sq fun K10 hK10 => ?_
   refine .sq fun K11 hK11 => ?_
   refine .d 8 ?_
   refine .k 1 (fun fs12 hfs12 => ?_) (by simp (disch := first|omega|(simp only[ln];omega)) [runDf.eq_def, runF1, runF2, stepF.eq_def, updo.eq_def, hupo.eq_def, opSto1.eq_def, List.take_succ_cons, List.take_zero, hms]; rfl)
   refine .f (size_fc bX (by omega)) hb86 ?_ (ha := by simp (disch := first|omega|(simp only[ln];omega)) [idf_Wd', hms])
   refine .k 1 (fun fs13 hfs13 => ?_) (by simp (disch := first|omega|(simp only[ln];omega)) [runDf.eq_def, runF1, runF2, stepF.eq_def, updo.eq_def, hupo.eq_def, opSto1.eq_def, List.take_succ_cons, List.take_zero, hms]; rfl)
   refine .f (size_fc bYY (by omega)) hb86 ?_ (ha := by simp (disch := first|omega|(simp only[ln];omega)) [idf_Wd', hms])
   refine .k 1 (fun fs14 hfs14 => ?_) (by simp (disch := first|omega|(simp only[ln];omega)) [runDf.eq_def, runF1, runF2, stepF.eq_def, updo.eq_def, hupo.eq_def, opSto1.eq_def, List.take_succ_cons, List.take_zero, hms]; rfl)
   refine .f (size_fc bW (by omega)) hb86 ?_ (ha := by simp (disch := first|omega|(simp only[ln];omega)) [idf_Wd', hms])
   refine .k 2 (fun fs15 hfs15 => ?_) (by simp (disch := first|omega|(simp only[ln];omega)) [runDf.eq_def, runF1, runF2, stepF.eq_def, updo.eq_def, hupo.eq_def, opSto1.eq_def, List.take_succ_cons, List.take_zero, hms]; rfl)
   refine .r 8 (by simp only[ln, hfs12, hfs13, hfs14, hfs15];omega) ?_ (by simp (disch := first|omega|(simp only[ln];omega)) [runDf.eq_def, runF1, runF2, stepF.eq_def, updo.eq_def, hupo.eq_def, opSto1.eq_def, hms]; rfl)
   refine hK11 _ ?_
   refine .c (t := !sm X Y W) (fun h58 => ?_) (fun h58 => ?_)
   ·try simp only[dc]at h58
    have hb : sm X Y W = false := by simpa using h58
    refine .q ?_ (by simp (disch := first|omega|(simp only[ln];omega)) [h2, hB]; rfl)
    refine .ret ?_
    exact hK _ _ _ _ trivial ((Fin.mk (by simp (disch := omega) [aRes, aResL, aRes1, h2]; rfl)).cast (by rw [eP, eB, pt3, hb]; rfl))
   ·try simp only[dc]at h58
    have hb : sm X Y W = true := by simpa using h58
    refine .skip ?_
    refine hK10 _ ?_
    refine .q ?_
    refine .sq fun K18 hK18 => ?_
    refine .region ?_
    refine .kf 1 w1 hb90 ?_
    refine .e ?_
    refine hK18 _ ?_
    refine .sq fun K19 hK19 => ?_
    refine .region ?_
    refine .kf 1 w2 hb90 ?_
    refine .e ?_
    refine hK19 _ ?_
    refine .sq fun K20 hK20 => ?_
    refine .region ?_
    refine .kf 1 w3 hb90 ?_
    refine .e ?_
    refine hK20 _ ?_
    refine .q ?_ (by simp (disch := first|omega|(simp only[ln];omega)) [h2, hB]; rfl)
    refine .ret ?_
    exact hK _ _ _ _ trivial ((Fin.mk (by simp (disch := omega) [aRes, aResL, aRes1, h2]; rfl)).cast (by rw [eP, eB, pt3, if_pos hb, hb]))
  refine .q ?_
  refine .c (t := decide (w < 0)) (fun h27 => ?_) (fun h27 => ?_)
  ·try simp only[dc]at h27
   refine .region ?_
   refine .kf 1 (minus_fc bG (by omega)) hb179 ?_
   refine .e ?_
   refine J6 _ ?_
   exact ⟨-g, by simp [h27], by simp, by simp, by simp, by simp, by simp (disch := omega), by simp (disch := omega), by simp (disch := omega), by simp, rfl⟩
  ·try simp only[dc]at h27
   refine .skip ?_
   refine J6 _ ?_
   exact ⟨g, by simp [h27], by simp, by simp, by simp, by simp, by simp (disch := omega), by simp (disch := omega), by simp (disch := omega), by simp, rfl⟩
end
section
attribute [local simp] idf_numI cells_numI numI_fold
end

end Go.Proofs.Ytmaebeknmiomnaa

/- Walks: where segments meet, by the reference; FnExactMeet. -/
namespace Go.Proofs.Ytmaebeknmiomnaa
open Go Go.RowKit
set_option linter.unusedSimpArgs false
set_option linter.unusedVariables false
set_option maxRecDepth 100000
attribute [local simp] szT2 byT2 agT2 unT2 zoT2 szT4 byT4 agT4 unT4 zoT4 szT67 byT67 agT67 flT67 fdT67_0 fdT67_1 zoT67 szT69 byT69 agT69 flT69 fdT69_0 fdT69_1 zoT69 szT111 byT111 agT111 elT111 unT111 zoT111 szT113 byT113 agT113 flT113 fdT113_0 fdT113_1 zoT113 szT115 byT115 agT115 flT115 fdT115_0 fdT115_1 fdT115_2 zoT115

theorem l1In_fc (n a b : Int) : FC Try.prog 199 [.int .i64 n, .int .i64 a, .int .i64 b] (.bool (decide (a ≤ n) && decide (n ≤ b))) := by
 refine .b Try.func199 15 (fun nx K hK => ?_)
 refine .q ?_
 refine .sq fun K2 hK2 => ?_
 cases h : decide (a ≤ n)
 ·refine .r ?_ (by simp (disch := first|omega|(simp only[ln];omega)) [h]; rfl)
  refine hK2 _ ?_
  refine .ret ?_
  exact hK _ _ _ _ trivial ((Fin.m).cast (by rw [h]; rfl))
 ·refine .r ?_ (by simp (disch := first|omega|(simp only[ln];omega)) [h]; rfl)
  refine hK2 _ ?_
  refine .ret ?_
  exact hK _ _ _ _ trivial ((Fin.m).cast (by rw [h]; rfl))
theorem l1InM_fc (n : Int) : FC Try.prog 199 [.int .i64 n, .int .i64 (-1000000), .int .i64 1000000] (.bool (inM n)) := l1In_fc n (-1000000) 1000000
section
attribute [local simp] Sp.av Sp.cells Sg.av Sg.cells
theorem spotOkS_fc (p : Sp) : FC Try.prog 114 [p.av] (.bool p.good) := by
 refine .b Try.func114 11 (fun nx K hK => ?_) (hi := by simp [idfL, idf, Sp.av, Sp.cells, Sg.av, Sg.cells])
 refine .q ?_
 refine .sq fun K2 hK2 => ?_
 cases hx : inM p.x
 ·refine .region ?_
  refine .kf 2 (l1InM_fc p.x) hb199 ?_ (by simp (disch := first|omega|(simp only[ln];omega)) [List.take_succ_cons, List.take_zero, hx]; rfl) (ha := by simp (disch := first|omega|(simp only[ln];omega)) [idf_Wd', hx])
  refine .e ?_ (by simp (disch := first|omega|(simp only[ln];omega)) [hx]; rfl)
  refine hK2 _ ?_
  refine .ret ?_
  exact hK _ _ _ _ trivial ((Fin.m).cast (by unfold Sp.good; rw [hx]; rfl))
 ·refine .region ?_
  refine .kf 2 (l1InM_fc p.x) hb199 ?_ (by simp (disch := first|omega|(simp only[ln];omega)) [List.take_succ_cons, List.take_zero, hx]; rfl) (ha := by simp (disch := first|omega|(simp only[ln];omega)) [idf_Wd', hx])
  refine .kf 3 (l1InM_fc p.y) hb199 ?_ (by simp (disch := first|omega|(simp only[ln];omega)) [List.take_succ_cons, List.take_zero, hx]; rfl) (ha := by simp (disch := first|omega|(simp only[ln];omega)) [idf_Wd', hx])
  refine .e ?_ (by simp (disch := first|omega|(simp only[ln];omega)) [hx]; rfl)
  refine hK2 _ ?_
  refine .ret ?_
  exact hK _ _ _ _ trivial ((Fin.m).cast (by unfold Sp.good; rw [hx]; rfl))
theorem l4Less_fc (p q : Sp) : FC Try.prog 183 [p.av, q.av] (.bool (lsS p q)) := by
 refine .b Try.func183 24 (fun nx K hK => ?_) (hi := by simp [idfL, idf, Sp.av, Sp.cells, Sg.av, Sg.cells])
 refine .q ?_
 refine .sq fun K2 hK2 => ?_
 by_cases q1 : p.x < q.x
 ·have hl : lsS p q = true := by simp [lsS, q1]
  have c1 : decide (p.x < q.x) = true := by simp [q1]
  refine .r ?_ (by simp (disch := first|omega|(simp only[ln];omega)) [c1]; rfl)
  refine hK2 _ ?_
  refine .ret ?_
  exact hK _ _ _ _ trivial ((Fin.m).cast (by rw [hl]; try rfl))
 ·have c1 : decide (p.x < q.x) = false := by simp; omega
  by_cases q2 : p.x = q.x
  ·have c2 : (p.x == q.x) = true := by simp [q2]
   have hl : lsS p q = decide (p.y < q.y) := by simp [lsS, q2]
   refine .r ?_ (by simp (disch := first|omega|(simp only[ln];omega)) [c1, c2]; rfl)
   refine hK2 _ ?_
   refine .ret ?_
   exact hK _ _ _ _ trivial ((Fin.m).cast (by rw [hl]))
  ·have c2 : (p.x == q.x) = false := by simp [q2]
   have hl : lsS p q = false := by simp [lsS, q2]; omega
   refine .r ?_ (by simp (disch := first|omega|(simp only[ln];omega)) [c1, c2]; rfl)
   refine hK2 _ ?_
   refine .ret ?_
   exact hK _ _ _ _ trivial ((Fin.m).cast (by rw [hl]; try rfl))
theorem segOkS_fc (s : Sg) : FC Try.prog 122 [s.av] (.bool s.good) := by
 refine .b Try.func122 18 (fun nx K hK => ?_) (hi := by simp [idfL, idf, Sp.av, Sp.cells, Sg.av, Sg.cells])
 refine .q ?_
 refine .sq fun K2 hK2 => ?_
 cases ha : s.a.good
 ·refine .region ?_
  refine .kf 2 (spotOkS_fc s.a) hb114 ?_ (by simp (disch := first|omega|(simp only[ln];omega)) [List.take_succ_cons, List.take_zero, ha]; rfl) (ha := by simp (disch := first|omega|(simp only[ln];omega)) [idf_Wd', ha])
  refine .e ?_ (by simp (disch := first|omega|(simp only[ln];omega)) [ha]; rfl)
  refine hK2 _ ?_
  refine .ret ?_
  exact hK _ _ _ _ trivial ((Fin.m).cast (by unfold Sg.good; rw [ha]; rfl))
 ·cases hb : s.b.good
  ·refine .region ?_
   refine .kf 2 (spotOkS_fc s.a) hb114 ?_ (by simp (disch := first|omega|(simp only[ln];omega)) [List.take_succ_cons, List.take_zero, ha, hb]; rfl) (ha := by simp (disch := first|omega|(simp only[ln];omega)) [idf_Wd', ha, hb])
   refine .kf 3 (spotOkS_fc s.b) hb114 ?_ (by simp (disch := first|omega|(simp only[ln];omega)) [List.take_succ_cons, List.take_zero, ha, hb]; rfl) (ha := by simp (disch := first|omega|(simp only[ln];omega)) [idf_Wd', ha, hb])
   refine .e ?_ (by simp (disch := first|omega|(simp only[ln];omega)) [ha, hb]; rfl)
   refine hK2 _ ?_
   refine .ret ?_
   exact hK _ _ _ _ trivial ((Fin.m).cast (by unfold Sg.good; rw [ha, hb]; rfl))
  ·refine .region ?_
   refine .kf 2 (spotOkS_fc s.a) hb114 ?_ (by simp (disch := first|omega|(simp only[ln];omega)) [List.take_succ_cons, List.take_zero, ha, hb, lsS_dec]; rfl) (ha := by simp (disch := first|omega|(simp only[ln];omega)) [idf_Wd', ha, hb, lsS_dec])
   refine .kf 3 (spotOkS_fc s.b) hb114 ?_ (by simp (disch := first|omega|(simp only[ln];omega)) [List.take_succ_cons, List.take_zero, ha, hb, lsS_dec]; rfl) (ha := by simp (disch := first|omega|(simp only[ln];omega)) [idf_Wd', ha, hb, lsS_dec])
   refine .kf 6 (l4Less_fc s.a s.b) hb183 ?_ (by simp (disch := first|omega|(simp only[ln];omega)) [List.take_succ_cons, List.take_zero, ha, hb, lsS_dec]; rfl) (ha := by simp (disch := first|omega|(simp only[ln];omega)) [idf_Wd', ha, hb, lsS_dec])
   refine .e ?_ (by simp (disch := first|omega|(simp only[ln];omega)) [ha, hb, lsS_dec]; rfl)
   refine hK2 _ ?_
   refine .ret ?_
   exact hK _ _ _ _ trivial ((Fin.m).cast (by unfold Sg.good; rw [ha, hb]; rfl))
end
section
attribute [local simp] idf_numS cells_numS numS_fold Sp.av Sp.cells Sg.av Sg.cells l3A l3C
end

end Go.Proofs.Ytmaebeknmiomnaa

/- Walks: FnMiddles, walked. -/
namespace Go.Proofs.Ytmaebeknmiomnaa
open Go Go.RowKit
set_option linter.unusedSimpArgs false
set_option linter.unusedVariables false
set_option maxRecDepth 100000
attribute [local simp] szT4 byT4 agT4 unT4 zoT4 szT26 byT26 agT26 flT26 fdT26_0 fdT26_1 fdT26_2 fdT26_3 zoT26 szT28 byT28 agT28 flT28 fdT28_0 fdT28_1 fdT28_2 zoT28 szT51 byT51 agT51 flT51 fdT51_0 fdT51_1 zoT51 szT80 byT80 agT80 elT80 unT80 zoT80 szT117 byT117 agT117 elT117 unT117 zoT117 szT119 byT119 agT119 flT119 fdT119_0 fdT119_1 zoT119 szT121 byT121 agT121 flT121 fdT121_0 fdT121_1 fdT121_2 zoT121 szT143 byT143 agT143 flT143 fdT143_0 fdT143_1 zoT143

section
attribute [local simp] idf_numS cells_numS numS_fold idf_numI cells_numI numI_fold Pt.av Pt.cells spA spC numC
set_option maxHeartbeats 4000000 in
theorem middleI_fc (p q : Pt) (hp : p.ok) (hq : q.ok) : FC Try.prog 29 [p.av, q.av] (.tup [.agg [.int .u64 (midP p q).x.a, .int .u64 (midP p q).x.b, .int .u64 (midP p q).x.c, .int .u64 (midP p q).x.d, .int .u64 (midP p q).y.a, .int .u64 (midP p q).y.b, .int .u64 (midP p q).y.c, .int .u64 (midP p q).y.d, .int .u64 (midP p q).w.a, .int .u64 (midP p q).w.b, .int .u64 (midP p q).w.c, .int .u64 (midP p q).w.d], .bool (midB p q)]) := by
 have ha := arePoints_fc [p, q] (by simp [hp, hq]) (by simp)
 have e : [p, q].all Pt.good = (p.good && q.good) := by simp
 rw [e] at ha
 have pX := W4.bg hp.1
 have pY := W4.bg hp.2.1
 have pW := W4.bg hp.2.2
 have qX := W4.bg hq.1
 have qY := W4.bg hq.2.1
 have qW := W4.bg hq.2.2
 refine .b Try.func29 51 (fun nx K hK => ?_) (hi := by simp [idfL, idf, Pt.av, Pt.cells])
 refine .q ?_
 refine .sq fun K2 hK2 => ?_
 refine .sq fun K3 hK3 => ?_
 refine .region ?_
 refine .k 3 ?_
 refine AOPS.frz1 10 (nx + 1 + 1 + 1) 12 [p.cells, q.cells] (.isl [p.cells, q.cells]) (by simp [Pt.cells]) (by simp [fz]) ?_
 refine .f ha hb79 ?_
 refine .e ?_
 refine hK3 _ ?_
 refine .c (t := !(p.good && q.good)) (fun h12 => ?_) (fun h12 => ?_)
 ·try simp only[dc]at h12
  have hg : (p.good && q.good) = false := by revert h12; cases p.good <;> cases q.good <;> simp
  refine .q ?_
  refine .ret ?_
  exact hK _ _ _ _ trivial ((Fin.m).cast (by unfold midP midB; rw [hg]; rfl))
 ·try simp only[dc]at h12
  have hg : (p.good && q.good) = true := by revert h12; cases p.good <;> cases q.good <;> simp
  refine .skip ?_
  refine hK2 _ ?_
  refine .sq fun K5 hK5 => ?_
  refine .old fun hold => ?_
  refine .d 6 ?_
  refine .k 1 (fun fs6 hfs6 => ?_)
  refine .f (spot_fc p hp) hb84 ?_
  refine DP.runF1q (by simp (disch := first|omega|(simp only[ln];omega)) [runDf.eq_def, runF1, runF2, stepF.eq_def, updo.eq_def, hupo.eq_def, opSto1.eq_def]; rfl) fun fq7 hfq7 => ?_
  simp [qids, asksB, Op.operands, topId] at hfq7
  simp only [updo]
  refine .f (spot_fc q hq) hb84 ?_
  refine .k 2 (fun fs8 hfs8 => ?_)
  refine DQ.sto1 (m := 6) [2] _ (by simp (disch := first|omega|(simp only[ln];omega)) [runDf.eq_def, runF1, runF2, stepF.eq_def, updo.eq_def, hupo.eq_def, opSto1.eq_def]; rfl) rfl (by simp only[ln, hfs6, hfs8];omega) (by kernel_rfl) (by intro k f hk hex; simp only [List.mem_cons, List.not_mem_nil, or_false] at hex; rcases hex with rfl <;> (simp [List.getElem?_append, hfs6, hfs8] at hk; subst hk; refine ⟨?_, by first | omega | (simp; done) | (simp; omega)⟩; simp [qids, asksB, Op.operands, Call.operands, topId, numS, numI, Wd, hfq7]; try omega)) ?_
  try simp only []
  refine DQ.sto1 (m := 6) [] _ (by simp (disch := first|omega|(simp only[ln];omega)) [runDf.eq_def, runF1, runF2, stepF.eq_def, updo.eq_def, hupo.eq_def, opSto1.eq_def]; rfl) rfl (by simp only[ln, hfs6, hfs8];omega) (by kernel_rfl) (by intro k f hk hex; simp only [List.not_mem_nil] at hex) ?_
  try simp only []
  refine hK5 _ ?_
  refine .sq fun K9 hK9 => ?_
  have e3 : p.w.v * q.w.v * 2 = midW p q := by unfold midW; rw [Int.mul_comm]
  have sp := spotPoint_fc (j := 10) (midX p q) (midY p q) (midW p q) (((pX.mul qW).add (qX.mul pW)).le (by omega)) (((pY.mul qW).add (qY.mul pW)).le (by omega)) (((Bg.i64 (n := 2) (by omega) (by omega)).mul (pW.mul qW)).le (by omega)) (by omega)
  have b3 := by_fc (pW.mul qW) (Bg.i64 (n := 2) (by omega) (by omega)) (by omega) (by omega)
  rw [e3] at b3
  have p1 := plus_fc (pX.mul qW) (qX.mul pW) (by omega) (by omega)
  have p2 := plus_fc (pY.mul qW) (qY.mul pW) (by omega) (by omega)
  rw [show p.x.v * q.w.v + q.x.v * p.w.v = midX p q from rfl] at p1
  rw [show p.y.v * q.w.v + q.y.v * p.w.v = midY p q from rfl] at p2
  refine .d 33 ?_
  refine .k 4 (fun fs10 hfs10 => ?_)
  refine .f (by_fc pX qW (by omega) (by omega)) hb92 ?_
  refine .k 4 (fun fs11 hfs11 => ?_)
  refine .f (by_fc qX pW (by omega) (by omega)) hb92 ?_
  refine .f p1 hb101 ?_
  refine .k 4 (fun fs12 hfs12 => ?_)
  refine .f (by_fc pY qW (by omega) (by omega)) hb92 ?_
  refine .k 4 (fun fs13 hfs13 => ?_)
  refine .f (by_fc qY pW (by omega) (by omega)) hb92 ?_
  refine .f p2 hb101 ?_
  refine .k 4 (fun fs14 hfs14 => ?_)
  refine .f (by_fc pW qW (by omega) (by omega)) hb92 ?_
  refine .f (whole_fc 2 (by omega) (by omega)) hb89 ?_
  refine .f b3 hb92 ?_
  refine .k 1 (fun fs15 hfs15 => ?_)
  refine .f sp hb93 ?_
  refine .k 2 (fun fs16 hfs16 => ?_)
  refine .r 33 (by simp only[ln, hfs10, hfs11, hfs12, hfs13, hfs14, hfs15, hfs16];omega) ?_
  refine hK9 _ ?_
  refine .ret ?_
  exact hK _ _ _ _ trivial ((Fin.m).cast (by unfold midP midB; rw [if_pos hg, if_pos hg]; try rfl))
end
section
attribute [local simp] idf_numS cells_numS numS_fold idf_numI cells_numI numI_fold Pt.av Pt.cells
end
section
attribute [local simp] idf_numS cells_numS numS_fold idf_numI cells_numI numI_fold Pt.av Pt.cells spA spC numC rtA rtC
set_option maxHeartbeats 4000000 in
theorem dist2_fc (p q : Pt) (hp : p.ok) (hq : q.ok) : FC Try.prog 33 [p.av, q.av] (.tup [.agg [.int .u64 ((d2F p q).1).up.a, .int .u64 ((d2F p q).1).up.b, .int .u64 ((d2F p q).1).up.c, .int .u64 ((d2F p q).1).up.d, .int .u64 ((d2F p q).1).down.a, .int .u64 ((d2F p q).1).down.b, .int .u64 ((d2F p q).1).down.c, .int .u64 ((d2F p q).1).down.d], .bool (d2F p q).2]) := by
 have ha := arePoints_fc [p, q] (by simp [hp, hq]) (by simp)
 have e : [p, q].all Pt.good = (p.good && q.good) := by simp
 rw [e] at ha
 have pX := W4.bg hp.1
 have pY := W4.bg hp.2.1
 have pW := W4.bg hp.2.2
 have qX := W4.bg hq.1
 have qY := W4.bg hq.2.1
 have qW := W4.bg hq.2.2
 refine .b Try.func33 62 (fun nx K hK => ?_) (hi := by simp [idfL, idf, Pt.av, Pt.cells])
 refine .q ?_
 refine .sq fun K2 hK2 => ?_
 refine .sq fun K3 hK3 => ?_
 refine .region ?_
 refine .k 3 ?_
 refine AOPS.frz1 13 (nx + 1 + 1 + 1) 12 [p.cells, q.cells] (.isl [p.cells, q.cells]) (by simp [Pt.cells]) (by simp [fz]) ?_
 refine .f ha hb79 ?_
 refine .e ?_
 refine hK3 _ ?_
 refine .c (t := !(p.good && q.good)) (fun h15 => ?_) (fun h15 => ?_)
 ·try simp only[dc]at h15
  have hg : (p.good && q.good) = false := by revert h15; cases p.good <;> cases q.good <;> simp
  refine .q ?_
  refine .ret ?_
  exact hK _ _ _ _ trivial ((Fin.m).cast (by unfold d2F; rw [hg]; rfl))
 ·try simp only[dc]at h15
  have hg : (p.good && q.good) = true := by revert h15; cases p.good <;> cases q.good <;> simp
  refine .skip ?_
  refine hK2 _ ?_
  refine .sq fun K5 hK5 => ?_
  refine .old fun hold => ?_
  refine .d 6 ?_
  refine .k 1 (fun fs6 hfs6 => ?_)
  refine .f (spot_fc p hp) hb84 ?_
  refine DP.runF1q (by simp (disch := first|omega|(simp only[ln];omega)) [runDf.eq_def, runF1, runF2, stepF.eq_def, updo.eq_def, hupo.eq_def, opSto1.eq_def]; rfl) fun fq7 hfq7 => ?_
  simp [qids, asksB, Op.operands, topId] at hfq7
  simp only [updo]
  refine .f (spot_fc q hq) hb84 ?_
  refine .k 2 (fun fs8 hfs8 => ?_)
  refine DQ.sto1 (m := 6) [2] _ (by simp (disch := first|omega|(simp only[ln];omega)) [runDf.eq_def, runF1, runF2, stepF.eq_def, updo.eq_def, hupo.eq_def, opSto1.eq_def]; rfl) rfl (by simp only[ln, hfs6, hfs8];omega) (by kernel_rfl) (by intro k f hk hex; simp only [List.mem_cons, List.not_mem_nil, or_false] at hex; rcases hex with rfl <;> (simp [List.getElem?_append, hfs6, hfs8] at hk; subst hk; refine ⟨?_, by first | omega | (simp; done) | (simp; omega)⟩; simp [qids, asksB, Op.operands, Call.operands, topId, numS, numI, Wd, hfq7]; try omega)) ?_
  try simp only []
  refine DQ.sto1 (m := 6) [] _ (by simp (disch := first|omega|(simp only[ln];omega)) [runDf.eq_def, runF1, runF2, stepF.eq_def, updo.eq_def, hupo.eq_def, opSto1.eq_def]; rfl) rfl (by simp only[ln, hfs6, hfs8];omega) (by kernel_rfl) (by intro k f hk hex; simp only [List.not_mem_nil] at hex) ?_
  try simp only []
  refine hK5 _ ?_
  refine .sq fun K9 hK9 => ?_
  have xx := less_fc (pX.mul qW) (qX.mul pW) (by omega) (by omega)
  have bx := (pX.mul qW).sub (qX.mul pW)
  have yy := less_fc (pY.mul qW) (qY.mul pW) (by omega) (by omega)
  have bY := (pY.mul qW).sub (qY.mul pW)
  have ww := by_fc pW qW (by omega) (by omega)
  have bw := pW.mul qW
  have dn : dN p q = (p.x.v * q.w.v - q.x.v * p.w.v) * (p.x.v * q.w.v - q.x.v * p.w.v) + (p.y.v * q.w.v - q.y.v * p.w.v) * (p.y.v * q.w.v - q.y.v * p.w.v) := rfl
  have dd : dD p q = (p.w.v * q.w.v) * (p.w.v * q.w.v) := rfl
  refine .d 12 ?_
  refine .k 4 (fun fs10 hfs10 => ?_)
  refine .f (by_fc pX qW (by omega) (by omega)) hb92 ?_
  refine .k 4 (fun fs11 hfs11 => ?_)
  refine .f (by_fc qX pW (by omega) (by omega)) hb92 ?_
  refine .f xx hb109 ?_
  refine .k 1 (fun fs12 hfs12 => ?_)
  refine .r 12 (by simp only[ln, hfs10, hfs11, hfs12];omega) ?_
  refine hK9 _ ?_
  refine .sq fun K13 hK13 => ?_
  refine .d 12 ?_
  refine .k 4 (fun fs14 hfs14 => ?_)
  refine .f (by_fc pY qW (by omega) (by omega)) hb92 ?_
  refine .k 4 (fun fs15 hfs15 => ?_)
  refine .f (by_fc qY pW (by omega) (by omega)) hb92 ?_
  refine .f yy hb109 ?_
  refine .k 1 (fun fs16 hfs16 => ?_)
  refine .r 12 (by simp only[ln, hfs14, hfs15, hfs16];omega) ?_
  refine hK13 _ ?_
  refine .sq fun K17 hK17 => ?_
  refine .region ?_
  refine .kf 4 ww hb92 ?_
  refine .e ?_
  refine hK17 _ ?_
  refine .sq fun K18 hK18 => ?_
  generalize p.x.v * q.w.v - q.x.v * p.w.v = A at *
  generalize p.y.v * q.w.v - q.y.v * p.w.v = B at *
  generalize p.w.v * q.w.v = C at *
  have td := told_fc (j := 40) (A * A + B * B) (C * C) (((bx.mul bx).add (bY.mul bY)).le (by omega)) ((bw.mul bw).le (by omega)) (by omega)
  refine .d 14 ?_
  refine .k 2 (fun fs19 hfs19 => ?_) (by simp (disch := first|omega|(simp only[ln];omega)) [runDf.eq_def, runF1, runF2, stepF.eq_def, updo.eq_def, hupo.eq_def, opSto1.eq_def, List.take_succ_cons, List.take_zero, rtA, rtC]; rfl)
  refine .f (by_fc bx bx (by omega) (by omega)) hb92 ?_ (ha := by simp (disch := first|omega|(simp only[ln];omega)) [idf_Wd', rtA, rtC])
  refine .k 2 (fun fs20 hfs20 => ?_) (by simp (disch := first|omega|(simp only[ln];omega)) [runDf.eq_def, runF1, runF2, stepF.eq_def, updo.eq_def, hupo.eq_def, opSto1.eq_def, List.take_succ_cons, List.take_zero, rtA, rtC]; rfl)
  refine .f (by_fc bY bY (by omega) (by omega)) hb92 ?_ (ha := by simp (disch := first|omega|(simp only[ln];omega)) [idf_Wd', rtA, rtC])
  refine .f (plus_fc (bx.mul bx) (bY.mul bY) (by omega) (by omega)) hb101 ?_ (ha := by simp (disch := first|omega|(simp only[ln];omega)) [idf_Wd', rtA, rtC])
  refine .k 2 (fun fs21 hfs21 => ?_) (by simp (disch := first|omega|(simp only[ln];omega)) [runDf.eq_def, runF1, runF2, stepF.eq_def, updo.eq_def, hupo.eq_def, opSto1.eq_def, List.take_succ_cons, List.take_zero, rtA, rtC]; rfl)
  refine .f (by_fc bw bw (by omega) (by omega)) hb92 ?_ (ha := by simp (disch := first|omega|(simp only[ln];omega)) [idf_Wd', rtA, rtC])
  refine .k 1 (fun fs22 hfs22 => ?_) (by simp (disch := first|omega|(simp only[ln];omega)) [runDf.eq_def, runF1, runF2, stepF.eq_def, updo.eq_def, hupo.eq_def, opSto1.eq_def, List.take_succ_cons, List.take_zero, rtA, rtC]; rfl)
  refine .f td hb110 ?_ (ha := by simp (disch := first|omega|(simp only[ln];omega)) [idf_Wd', rtA, rtC])
  refine .k 2 (fun fs23 hfs23 => ?_) (by simp (disch := first|omega|(simp only[ln];omega)) [runDf.eq_def, runF1, runF2, stepF.eq_def, updo.eq_def, hupo.eq_def, opSto1.eq_def, List.take_succ_cons, List.take_zero, rtA, rtC]; rfl)
  refine .r 14 (by simp only[ln, hfs19, hfs20, hfs21, hfs22, hfs23];omega) ?_ (by simp (disch := first|omega|(simp only[ln];omega)) [runDf.eq_def, runF1, runF2, stepF.eq_def, updo.eq_def, hupo.eq_def, opSto1.eq_def, rtA, rtC]; rfl)
  refine hK18 _ ?_
  refine .ret ?_
  exact hK _ _ _ _ trivial ((Fin.m).cast (by unfold d2F; rw [if_pos hg, dn, dd]; try rfl))
end

end Go.Proofs.Ytmaebeknmiomnaa

/- Walks: drawn segments. -/
namespace Go.Proofs.Ytmaebeknmiomnaa
open Go Go.RowKit
set_option linter.unusedSimpArgs false
set_option linter.unusedVariables false
set_option maxRecDepth 100000
attribute [local simp] szT2 byT2 agT2 unT2 zoT2 szT3 byT3 agT3 unT3 zoT3 szT67 byT67 agT67 flT67 fdT67_0 fdT67_1 zoT67 szT69 byT69 agT69 flT69 fdT69_0 fdT69_1 zoT69 szT228 byT228 agT228 elT228 unT228 zoT228

def tabO : List Int := [-1000001, 1000001, -9223372036854775808, 9223372036854775807]
theorem tabO_b (k : Nat) : I64 (gt tabO k) := by
  have h : ∀ x ∈ tabO, -9223372036854775808 ≤ x ∧ x ≤ 9223372036854775807 := by decide
  unfold gt I64
  cases hk : tabO[k]? with
  | none => simp
  | some x => simpa using h x (List.mem_of_getElem? hk)
def sgZ : Sg := ⟨⟨0, 0⟩, ⟨0, 0⟩⟩
def segS (a b : Sp) : Sg × Bool := if (segO a b).good = true then (segO a b, true) else (sgZ, false)
theorem segO_ok {a b : Sp} (ha : a.ok) (hb : b.ok) : (segO a b).ok := by unfold segO; split; exact ⟨hb, ha⟩; exact ⟨ha, hb⟩
theorem sgZ_ok : sgZ.ok := by unfold Sg.ok Sp.ok I64 sgZ; simp
theorem segS_ok {a b : Sp} (ha : a.ok) (hb : b.ok) : (segS a b).1.ok := by unfold segS; split; exact segO_ok ha hb; exact sgZ_ok

section
attribute [local simp] Sp.av Sp.cells Sg.av Sg.cells
set_option maxHeartbeats 2000000 in
theorem segOfS_fc (a b : Sp) : FC Try.prog 155 [a.av, b.av] (.tup [.agg [.int .i64 ((segS a b).1).a.x, .int .i64 ((segS a b).1).a.y, .int .i64 ((segS a b).1).b.x, .int .i64 ((segS a b).1).b.y], .bool (segS a b).2]) := by
 refine .b Try.func155 20 (fun nx K hK => ?_) (hi := by simp [idfL, idf, Sp.av, Sp.cells, Sg.av, Sg.cells])
 refine .q ?_
 refine .sq fun K2 hK2 => ?_
 refine .sq fun K3 hK3 => ?_
 cases hl : lsS b a
 ·have es : segO a b = ⟨a, b⟩ := by unfold segO; rw [hl]; rfl
  refine .region ?_
  refine .kf 2 (l4Less_fc b a) hb183 ?_ (by simp (disch := first|omega|(simp only[ln];omega)) [List.take_succ_cons, List.take_zero, hl]; rfl) (ha := by simp (disch := first|omega|(simp only[ln];omega)) [idf_Wd', hl])
  refine .nil ?_
  refine hK3 _ ?_
  refine .c (fun h9 => ?_) (fun h9 => ?_)
  ·simp [hl] at h9
  ·try simp only[dc]at h9
   refine .skip ?_
   refine hK2 _ ?_
   refine .q ?_
   refine .sq fun K5 hK5 => ?_
   refine .sq fun K6 hK6 => ?_
   refine .region ?_
   refine .kf 1 (segOkS_fc ⟨a, b⟩) hb122 ?_
   refine .e ?_
   refine hK6 _ ?_
   refine .c (t := !(Sg.good ⟨a, b⟩)) (fun h17 => ?_) (fun h17 => ?_)
   ·try simp only[dc]at h17
    have hg : (segO a b).good = false := by rw [es]; simpa using h17
    refine .q ?_
    refine .ret ?_
    exact hK _ _ _ _ trivial ((Fin.m).cast (by unfold segS; rw [hg]; rfl))
   ·try simp only[dc]at h17
    have hg : (segO a b).good = true := by rw [es]; simpa using h17
    refine .skip ?_
    refine hK5 _ ?_
    refine .q ?_
    refine .ret ?_
    exact hK _ _ _ _ trivial ((Fin.m).cast (by unfold segS; rw [if_pos hg, es]; try rfl))
 ·have es : segO a b = ⟨b, a⟩ := by unfold segO; rw [hl]; rfl
  refine .region ?_
  refine .kf 2 (l4Less_fc b a) hb183 ?_ (by simp (disch := first|omega|(simp only[ln];omega)) [List.take_succ_cons, List.take_zero, hl]; rfl) (ha := by simp (disch := first|omega|(simp only[ln];omega)) [idf_Wd', hl])
  refine .nil ?_
  refine hK3 _ ?_
  refine .c (fun h9 => ?_) (fun h9 => ?_)
  ·try simp only[dc]at h9
   refine .r ?_
   refine hK2 _ ?_
   refine .q ?_
   refine .sq fun K10 hK10 => ?_
   refine .sq fun K11 hK11 => ?_
   refine .region ?_
   refine .kf 1 (segOkS_fc ⟨b, a⟩) hb122 ?_
   refine .e ?_
   refine hK11 _ ?_
   refine .c (t := !(Sg.good ⟨b, a⟩)) (fun h17 => ?_) (fun h17 => ?_)
   ·try simp only[dc]at h17
    have hg : (segO a b).good = false := by rw [es]; simpa using h17
    refine .q ?_
    refine .ret ?_
    exact hK _ _ _ _ trivial ((Fin.m).cast (by unfold segS; rw [hg]; rfl))
   ·try simp only[dc]at h17
    have hg : (segO a b).good = true := by rw [es]; simpa using h17
    refine .skip ?_
    refine hK10 _ ?_
    refine .q ?_
    refine .ret ?_
    exact hK _ _ _ _ trivial ((Fin.m).cast (by unfold segS; rw [if_pos hg, es]; try rfl))
  ·simp [hl] at h9
end
set_option maxHeartbeats 2000000 in
theorem off_ac (l : List Int) (p id : Nat) (H : Heap) (nx : Nat) (dl : Dig 256 l) (hl : l.length ≤ 1048576) (hp : p ≤ l.length) (hH : H id = some (2, [[Wd .u8 l, .int .i64 (p : Int)]])) (hd : ∀ i q, H i = some q → i < nx) : ACall Try.prog 129 [.ptr id 0 0, .int .i64 (-1000000), .int .i64 1000000] H nx (fun r H' nx' => (∃ k : Int, r = .int .i64 k ∧ I64 k) ∧ (∃ p' : Nat, p' ≤ l.length ∧ H' = hupd H id (some (2, [[Wd .u8 l, .int .i64 (p' : Int)]]))) ∧ nx ≤ nx') := by
 have hid := hd id _ hH
 have tOl : tabO.length = 4 := rfl
 refine .b Try.func129 22 fun K hK => ?_
 refine .q ?_
 refine .sq fun K2 hK2 => ?_
 refine .sq fun K3 hK3 => ?_
 refine .region ?_
 refine .k 1 ?_ (by simp (disch := first|omega|(simp only[ln];omega)) [List.take_succ_cons, List.take_zero, hH]; rfl)
 refine AOPS.old fun hold1 => ?_
 refine .a (once_ac 24 (by omega) (by omega) l p id _ _ dl hl hp (by simp (disch := omega) [hH]) hold1) hb78 ?_ (ha := by simp (disch := first|omega|(simp only[ln];omega)) [idf_Wd', hH])
 rintro _ _ nx2 ⟨⟨b, rfl⟩, ⟨p2, hp2, rfl⟩, hnx2⟩
 try simp only [] at hnx2
 clear hold1
 refine .nil ?_
 refine hK3 _ ?_
 refine .c (t := b) (fun h8 => ?_) (fun h8 => ?_)
 ·try simp only[dc]at h8
  refine .sq fun K4 hK4 => ?_
  refine .region ?_
  refine .k 6 ?_ (by simp (disch := first|omega|(simp only[ln];omega)) [List.take_succ_cons, List.take_zero, idx_WdD (P := Try.prog) elT228 szT2, if_pos, tOl]; rfl)
  refine AOPS.frz1 13 nx2 1 (wd .i64 tabO) (Wd .i64 tabO) (by simp; rfl) (by simp; first | exact fz_wd rfl | exact isl_take_wd (by decide)) ?_
  refine AOPS.old fun hold6 => ?_
  refine .a (below_ac 4 (by omega) (by omega) l p2 id _ _ dl hl hp2 (by simp (disch := omega) [hH]) hold6) hb159 ?_ (ha := by simp (disch := first|omega|(simp only[ln];omega)) [idf_Wd', idx_WdD (P := Try.prog) elT228 szT2, if_pos, tOl])
  rintro _ _ nx3 ⟨⟨k, rfl, k0, k1⟩, ⟨p3, hp3, rfl⟩, hnx3⟩
  try simp only [] at hnx3
  clear hold6
  have hk : k.toNat < 4 := by omega
  refine .e ?_ (by simp (disch := first|omega|(simp only[ln];omega)) [idx_WdD (P := Try.prog) elT228 szT2, if_pos, tOl]; rfl)
  refine hK4 _ ?_
  refine .ret ?_
  exact hK _ _ _ _ _ trivial ((Fin.mk (r := .int .i64 (gt tabO k.toNat)) (by simp (disch := omega) [aRes, aResL, aRes1])).restr (fun i => decide (i < nx))) (⟨⟨gt tabO k.toNat, rfl, tabO_b _⟩, ⟨p3, hp3, by simp (disch := first | omega | (simp; done) | (simp; omega)) [hrestr_in, hrestr_out, hrestr_all hd, hupd_same]⟩, by first | omega | (simp at *; omega)⟩)
 ·try simp only[dc]at h8
  refine .skip ?_
  refine hK2 _ ?_
  refine .sq fun K5 hK5 => ?_
  refine .region ?_
  refine .k 3 ?_
  refine AOPS.old fun hold3 => ?_
  refine .a (near_ac (-1000000) (1000000) (by omega) (by omega) (by omega) l p2 id _ _ dl hl hp2 (by simp (disch := omega) [hH]) hold3) hb164 ?_
  rintro _ _ nx3 ⟨⟨k, rfl, k0, k1⟩, ⟨p3, hp3, rfl⟩, hnx3⟩
  try simp only [] at hnx3
  clear hold3
  refine .e ?_
  refine hK5 _ ?_
  refine .ret ?_
  exact hK _ _ _ _ _ trivial ((Fin.mk (r := .int .i64 k) (by simp (disch := omega) [aRes, aResL, aRes1])).restr (fun i => decide (i < nx))) (⟨⟨k, rfl, by unfold I64; omega⟩, ⟨p3, hp3, by simp (disch := first | omega | (simp; done) | (simp; omega)) [hrestr_in, hrestr_out, hrestr_all hd, hupd_same]⟩, by first | omega | (simp at *; omega)⟩)
section
attribute [local simp] Sp.av Sp.cells Sg.av Sg.cells
set_option maxHeartbeats 8000000 in
theorem seg_ac (l : List Int) (p id : Nat) (H : Heap) (nx : Nat) (dl : Dig 256 l) (hl : l.length ≤ 1048576) (hp : p ≤ l.length) (hH : H id = some (2, [[Wd .u8 l, .int .i64 (p : Int)]])) (hd : ∀ i q, H i = some q → i < nx) : ACall Try.prog 128 [.ptr id 0 0] H nx (fun r H' nx' => (∃ s : Sg, r = .agg [.int .i64 (s).a.x, .int .i64 (s).a.y, .int .i64 (s).b.x, .int .i64 (s).b.y] ∧ s.ok) ∧ (∃ p' : Nat, p' ≤ l.length ∧ H' = hupd H id (some (2, [[Wd .u8 l, .int .i64 (p' : Int)]]))) ∧ nx ≤ nx') := by
 have hid := hd id _ hH
 refine .b Try.func128 66 fun K hK => ?_
 refine .q ?_
 refine .sq fun K2 hK2 => ?_
 refine .sq fun K3 hK3 => ?_
 refine .region ?_
 refine .k 1 ?_ (by simp (disch := first|omega|(simp only[ln];omega)) [List.take_succ_cons, List.take_zero, hH]; rfl)
 refine AOPS.old fun hold1 => ?_
 refine .a (below_ac 20 (by omega) (by omega) l p id _ _ dl hl hp (by simp (disch := omega) [hH]) hold1) hb159 ?_ (ha := by simp (disch := first|omega|(simp only[ln];omega)) [idf_Wd', hH])
 rintro _ _ nx2 ⟨⟨k, rfl, k0, k1⟩, ⟨p2, hp2, rfl⟩, hnx2⟩
 try simp only [] at hnx2
 clear hold1
 refine .nil ?_
 refine hK3 _ ?_
 refine .block ?_
 refine .q ?_
 refine .c (t := k == 0) (fun h11 => ?_) (fun h11 => ?_)
 ·try simp only[dc]at h11
  refine .sq fun K5 hK5 => ?_
  refine .region ?_
  refine .k 1 ?_
  refine AOPS.old fun hold1 => ?_
  refine .a (off_ac l p2 id _ _ dl hl hp2 (by simp (disch := omega) [hH]) hold1) hb129 ?_
  rintro _ _ nx3 ⟨⟨ka, rfl, kai⟩, ⟨p3, hp3, rfl⟩, hnx3⟩
  try simp only [] at hnx3
  clear hold1
  refine .k 1 ?_
  refine AOPS.old fun hold3 => ?_
  refine .a (off_ac l p3 id _ _ dl hl hp3 (by simp (disch := omega) [hH]) hold3) hb129 ?_
  rintro _ _ nx4 ⟨⟨kb, rfl, kbi⟩, ⟨p4, hp4, rfl⟩, hnx4⟩
  try simp only [] at hnx4
  clear hold3
  refine .k 2 ?_
  refine AOPS.old fun hold6 => ?_
  refine .a (off_ac l p4 id _ _ dl hl hp4 (by simp (disch := omega) [hH]) hold6) hb129 ?_
  rintro _ _ nx5 ⟨⟨kc, rfl, kci⟩, ⟨p5, hp5, rfl⟩, hnx5⟩
  try simp only [] at hnx5
  clear hold6
  refine .k 1 ?_
  refine AOPS.old fun hold8 => ?_
  refine .a (off_ac l p5 id _ _ dl hl hp5 (by simp (disch := omega) [hH]) hold8) hb129 ?_
  rintro _ _ nx6 ⟨⟨kd, rfl, kdi⟩, ⟨p6, hp6, rfl⟩, hnx6⟩
  try simp only [] at hnx6
  clear hold8
  refine .e ?_
  refine hK5 _ ?_
  refine .ret ?_
  exact hK _ _ _ _ _ trivial ((Fin.mk (r := .agg [.int .i64 ((⟨⟨ka, kb⟩, ⟨kc, kd⟩⟩ : Sg)).a.x, .int .i64 ((⟨⟨ka, kb⟩, ⟨kc, kd⟩⟩ : Sg)).a.y, .int .i64 ((⟨⟨ka, kb⟩, ⟨kc, kd⟩⟩ : Sg)).b.x, .int .i64 ((⟨⟨ka, kb⟩, ⟨kc, kd⟩⟩ : Sg)).b.y]) (by simp (disch := omega) [aRes, aResL, aRes1])).restr (fun i => decide (i < nx))) (⟨⟨(⟨⟨ka, kb⟩, ⟨kc, kd⟩⟩ : Sg), rfl, ⟨⟨kai, kbi⟩, ⟨kci, kdi⟩⟩⟩, ⟨p6, hp6, by simp (disch := first | omega | (simp; done) | (simp; omega)) [hrestr_in, hrestr_out, hrestr_all hd, hupd_same]⟩, by first | omega | (simp at *; omega)⟩)
 ·try simp only[dc]at h11
  refine .q ?_
  refine .c (t := k == 1) (fun h24 => ?_) (fun h24 => ?_)
  ·try simp only[dc]at h24
   refine .sq fun K7 hK7 => ?_
   refine .region ?_
   refine .k 1 ?_
   refine AOPS.old fun hold1 => ?_
   refine .a (near_ac (-1000000) (1000000) (by omega) (by omega) (by omega) l p2 id _ _ dl hl hp2 (by simp (disch := omega) [hH]) hold1) hb164 ?_
   rintro _ _ nx3 ⟨⟨ka, rfl, ka0, ka1⟩, ⟨p3, hp3, rfl⟩, hnx3⟩
   try simp only [] at hnx3
   clear hold1
   refine .k 1 ?_
   refine AOPS.old fun hold3 => ?_
   refine .a (near_ac (-1000000) (1000000) (by omega) (by omega) (by omega) l p3 id _ _ dl hl hp3 (by simp (disch := omega) [hH]) hold3) hb164 ?_
   rintro _ _ nx4 ⟨⟨kb, rfl, kb0, kb1⟩, ⟨p4, hp4, rfl⟩, hnx4⟩
   try simp only [] at hnx4
   clear hold3
   refine .k 2 ?_
   refine AOPS.old fun hold6 => ?_
   refine .a (near_ac (-1000000) (1000000) (by omega) (by omega) (by omega) l p4 id _ _ dl hl hp4 (by simp (disch := omega) [hH]) hold6) hb164 ?_
   rintro _ _ nx5 ⟨⟨kc, rfl, kc0, kc1⟩, ⟨p5, hp5, rfl⟩, hnx5⟩
   try simp only [] at hnx5
   clear hold6
   refine .k 1 ?_
   refine AOPS.old fun hold8 => ?_
   refine .a (near_ac (-1000000) (1000000) (by omega) (by omega) (by omega) l p5 id _ _ dl hl hp5 (by simp (disch := omega) [hH]) hold8) hb164 ?_
   rintro _ _ nx6 ⟨⟨kd, rfl, kd0, kd1⟩, ⟨p6, hp6, rfl⟩, hnx6⟩
   try simp only [] at hnx6
   clear hold8
   refine .kf 1 (segOfS_fc ⟨ka, kb⟩ ⟨kc, kd⟩) hb155 ?_
   refine .e ?_
   refine hK7 _ ?_
   refine .q ?_
   refine .ret ?_
   exact hK _ _ _ _ _ trivial ((Fin.mk (r := .agg [.int .i64 ((segS ⟨ka, kb⟩ ⟨kc, kd⟩).1).a.x, .int .i64 ((segS ⟨ka, kb⟩ ⟨kc, kd⟩).1).a.y, .int .i64 ((segS ⟨ka, kb⟩ ⟨kc, kd⟩).1).b.x, .int .i64 ((segS ⟨ka, kb⟩ ⟨kc, kd⟩).1).b.y]) (by simp (disch := omega) [aRes, aResL, aRes1])).restr (fun i => decide (i < nx))) (⟨⟨(segS ⟨ka, kb⟩ ⟨kc, kd⟩).1, rfl, segS_ok ⟨by unfold I64; first | omega | (simp only []; omega), by unfold I64; first | omega | (simp only []; omega)⟩ ⟨by unfold I64; first | omega | (simp only []; omega), by unfold I64; first | omega | (simp only []; omega)⟩⟩, ⟨p6, hp6, by simp (disch := first | omega | (simp; done) | (simp; omega)) [hrestr_in, hrestr_out, hrestr_all hd, hupd_same]⟩, by first | omega | (simp at *; omega)⟩)
  ·try simp only[dc]at h24
   refine .q ?_
   refine .c (t := k == 2) (fun h41 => ?_) (fun h41 => ?_)
   ·try simp only[dc]at h41
    refine .sq fun K10 hK10 => ?_
    refine .region ?_
    refine .k 1 ?_
    refine AOPS.old fun hold1 => ?_
    refine .a (spot_ac l p2 id _ _ dl hl hp2 (by simp (disch := omega) [hH]) hold1) hb130 ?_
    rintro _ _ nx3 ⟨⟨ax, ay, rfl, ax0, ax1, ay0, ay1⟩, ⟨p3, hp3, rfl⟩, hnx3⟩
    try simp only [] at hnx3
    clear hold1
    refine .k 1 ?_
    refine AOPS.old fun hold3 => ?_
    refine .a (spot_ac l p3 id _ _ dl hl hp3 (by simp (disch := omega) [hH]) hold3) hb130 ?_
    rintro _ _ nx4 ⟨⟨cx, cy, rfl, cx0, cx1, cy0, cy1⟩, ⟨p4, hp4, rfl⟩, hnx4⟩
    try simp only [] at hnx4
    clear hold3
    refine .e ?_
    refine hK10 _ ?_
    refine .ret ?_
    exact hK _ _ _ _ _ trivial ((Fin.mk (r := .agg [.int .i64 ((⟨⟨ax, ay⟩, ⟨cx, cy⟩⟩ : Sg)).a.x, .int .i64 ((⟨⟨ax, ay⟩, ⟨cx, cy⟩⟩ : Sg)).a.y, .int .i64 ((⟨⟨ax, ay⟩, ⟨cx, cy⟩⟩ : Sg)).b.x, .int .i64 ((⟨⟨ax, ay⟩, ⟨cx, cy⟩⟩ : Sg)).b.y]) (by simp (disch := omega) [aRes, aResL, aRes1])).restr (fun i => decide (i < nx))) (⟨⟨(⟨⟨ax, ay⟩, ⟨cx, cy⟩⟩ : Sg), rfl, ⟨⟨by unfold I64; first | omega | (simp only []; omega), by unfold I64; first | omega | (simp only []; omega)⟩, ⟨by unfold I64; first | omega | (simp only []; omega), by unfold I64; first | omega | (simp only []; omega)⟩⟩⟩, ⟨p4, hp4, by simp (disch := first | omega | (simp; done) | (simp; omega)) [hrestr_in, hrestr_out, hrestr_all hd, hupd_same]⟩, by first | omega | (simp at *; omega)⟩)
   ·try simp only[dc]at h41
    refine .skip ?_
    refine hK2 _ ?_
    refine .sq fun K11 hK11 => ?_
    refine .region ?_
    refine .k 1 ?_
    refine AOPS.old fun hold1 => ?_
    refine .a (spot_ac l p2 id _ _ dl hl hp2 (by simp (disch := omega) [hH]) hold1) hb130 ?_
    rintro _ _ nx3 ⟨⟨ax, ay, rfl, ax0, ax1, ay0, ay1⟩, ⟨p3, hp3, rfl⟩, hnx3⟩
    try simp only [] at hnx3
    clear hold1
    refine .e ?_
    refine hK11 _ ?_
    refine .sq fun K12 hK12 => ?_
    refine .region ?_
    refine .k 1 ?_
    refine AOPS.old fun hold1 => ?_
    refine .a (spot_ac l p3 id _ _ dl hl hp3 (by simp (disch := omega) [hH]) hold1) hb130 ?_
    rintro _ _ nx4 ⟨⟨cx, cy, rfl, cx0, cx1, cy0, cy1⟩, ⟨p4, hp4, rfl⟩, hnx4⟩
    try simp only [] at hnx4
    clear hold1
    refine .e ?_
    refine hK12 _ ?_
    refine .sq fun K13 hK13 => ?_
    refine .sq fun K14 hK14 => ?_
    by_cases he : (⟨ax, ay⟩ : Sp) = ⟨cx, cy⟩
    ·have hc : decide ((⟨ax, ay⟩ : Sp) = ⟨cx, cy⟩) = true := by simp [he]
     have hq := eqW2 ⟨ax, ay⟩ ⟨cx, cy⟩
     rw [hc] at hq
     simp only [] at hq
     refine .r ?_ (by simp (disch := first|omega|(simp only[ln];omega)) [hq]; rfl)
     refine hK14 _ ?_
     refine .c (fun h54 => ?_) (fun h54 => ?_)
     ·try simp only[dc]at h54
      refine .r ?_
      refine hK13 _ ?_
      refine .sq fun K15 hK15 => ?_
      refine .region ?_
      refine .kf 2 (segOfS_fc ⟨ax, ay⟩ ⟨cx + 1, cy⟩) hb155 ?_
      refine .e ?_
      refine hK15 _ ?_
      refine .q ?_
      refine .ret ?_
      exact hK _ _ _ _ _ trivial ((Fin.mk (r := .agg [.int .i64 ((segS ⟨ax, ay⟩ ⟨cx + 1, cy⟩).1).a.x, .int .i64 ((segS ⟨ax, ay⟩ ⟨cx + 1, cy⟩).1).a.y, .int .i64 ((segS ⟨ax, ay⟩ ⟨cx + 1, cy⟩).1).b.x, .int .i64 ((segS ⟨ax, ay⟩ ⟨cx + 1, cy⟩).1).b.y]) (by simp (disch := omega) [aRes, aResL, aRes1])).restr (fun i => decide (i < nx))) (⟨⟨(segS ⟨ax, ay⟩ ⟨cx + 1, cy⟩).1, rfl, segS_ok ⟨by unfold I64; first | omega | (simp only []; omega), by unfold I64; first | omega | (simp only []; omega)⟩ ⟨by unfold I64; first | omega | (simp only []; omega), by unfold I64; first | omega | (simp only []; omega)⟩⟩, ⟨p4, hp4, by simp (disch := first | omega | (simp; done) | (simp; omega)) [hrestr_in, hrestr_out, hrestr_all hd, hupd_same]⟩, by first | omega | (simp at *; omega)⟩)
     ·simp at h54
    ·have hc : decide ((⟨ax, ay⟩ : Sp) = ⟨cx, cy⟩) = false := by simp [he]
     have hq := eqW2 ⟨ax, ay⟩ ⟨cx, cy⟩
     rw [hc] at hq
     simp only [] at hq
     refine .r ?_ (by simp (disch := first|omega|(simp only[ln];omega)) [hq]; rfl)
     refine hK14 _ ?_
     refine .c (fun h54 => ?_) (fun h54 => ?_)
     ·simp at h54
     ·try simp only[dc]at h54
      refine .skip ?_
      refine hK13 _ ?_
      refine .sq fun K17 hK17 => ?_
      refine .region ?_
      refine .kf 2 (segOfS_fc ⟨ax, ay⟩ ⟨cx, cy⟩) hb155 ?_
      refine .e ?_
      refine hK17 _ ?_
      refine .q ?_
      refine .ret ?_
      exact hK _ _ _ _ _ trivial ((Fin.mk (r := .agg [.int .i64 ((segS ⟨ax, ay⟩ ⟨cx, cy⟩).1).a.x, .int .i64 ((segS ⟨ax, ay⟩ ⟨cx, cy⟩).1).a.y, .int .i64 ((segS ⟨ax, ay⟩ ⟨cx, cy⟩).1).b.x, .int .i64 ((segS ⟨ax, ay⟩ ⟨cx, cy⟩).1).b.y]) (by simp (disch := omega) [aRes, aResL, aRes1])).restr (fun i => decide (i < nx))) (⟨⟨(segS ⟨ax, ay⟩ ⟨cx, cy⟩).1, rfl, segS_ok ⟨by unfold I64; first | omega | (simp only []; omega), by unfold I64; first | omega | (simp only []; omega)⟩ ⟨by unfold I64; first | omega | (simp only []; omega), by unfold I64; first | omega | (simp only []; omega)⟩⟩, ⟨p4, hp4, by simp (disch := first | omega | (simp; done) | (simp; omega)) [hrestr_in, hrestr_out, hrestr_all hd, hupd_same]⟩, by first | omega | (simp at *; omega)⟩)
end

end Go.Proofs.Ytmaebeknmiomnaa

/- Walks: FnOver, walked. -/
namespace Go.Proofs.Ytmaebeknmiomnaa
open Go Go.RowKit
set_option linter.unusedSimpArgs false
set_option linter.unusedVariables false
set_option maxRecDepth 100000
attribute [local simp] szT2 byT2 agT2 unT2 zoT2 szT4 byT4 agT4 unT4 zoT4 szT26 byT26 agT26 flT26 fdT26_0 fdT26_1 fdT26_2 fdT26_3 zoT26 szT28 byT28 agT28 flT28 fdT28_0 fdT28_1 fdT28_2 zoT28 szT67 byT67 agT67 flT67 fdT67_0 fdT67_1 zoT67 szT69 byT69 agT69 flT69 fdT69_0 fdT69_1 zoT69 szT117 byT117 agT117 elT117 unT117 zoT117 szT119 byT119 agT119 flT119 fdT119_0 fdT119_1 zoT119 szT121 byT121 agT121 flT121 fdT121_0 fdT121_1 fdT121_2 zoT121

section
attribute [local simp] idf_numS cells_numS numS_fold idf_numI cells_numI numI_fold Sp.av Sp.cells Sg.av Sg.cells Pt.av Pt.cells spA spC numC
set_option maxHeartbeats 4000000 in
theorem sideOfI_fc (s : Sg) (p : Pt) (gs : s.good = true) (hp : p.ok) : FC Try.prog 121 [s.av, p.av] (.int .i64 (sdF s p)) := by
 obtain ⟨ax0, ax1, ay0, ay1⟩ := Sp.b (good_a gs)
 obtain ⟨bx0, bx1, by0, by1⟩ := Sp.b (good_b gs)
 have pX := W4.bg hp.1
 have pY := W4.bg hp.2.1
 have pW := W4.bg hp.2.2
 have aX : Bg 1 s.a.x := Bg.i64 (by omega) (by omega)
 have aY : Bg 1 s.a.y := Bg.i64 (by omega) (by omega)
 have bX : Bg 1 s.b.x := Bg.i64 (by omega) (by omega)
 have bY : Bg 1 s.b.y := Bg.i64 (by omega) (by omega)
 have dX' : Bg 1 (s.b.x - s.a.x) := Bg.i64 (by omega) (by omega)
 have dY' : Bg 1 (s.b.y - s.a.y) := Bg.i64 (by omega) (by omega)
 refine .b Try.func121 52 (fun nx K hK => ?_) (hi := by simp [idfL, idf, Sp.av, Sp.cells, Sg.av, Sg.cells, Pt.av, Pt.cells])
 refine .q ?_
 refine .sq fun K2 hK2 => ?_
 refine .region ?_
 refine .kf 1 (spot_fc p hp) hb84 ?_
 refine .e ?_
 refine hK2 _ ?_
 refine .sq fun K3 hK3 => ?_
 refine .d 11 ?_
 refine .k 5 (fun fs4 hfs4 => ?_)
 refine .f (whole_fc s.a.x (by omega) (by omega)) hb89 ?_
 refine .k 2 (fun fs5 hfs5 => ?_)
 refine .f (by_fc aX pW (by omega) (by omega)) hb92 ?_
 refine .f (less_fc pX (aX.mul pW) (by omega) (by omega)) hb109 ?_
 refine .k 1 (fun fs6 hfs6 => ?_)
 refine .r 11 (by simp only[ln, hfs4, hfs5, hfs6];omega) ?_
 refine hK3 _ ?_
 refine .sq fun K7 hK7 => ?_
 refine .d 11 ?_
 refine .k 5 (fun fs8 hfs8 => ?_)
 refine .f (whole_fc s.a.y (by omega) (by omega)) hb89 ?_
 refine .k 2 (fun fs9 hfs9 => ?_)
 refine .f (by_fc aY pW (by omega) (by omega)) hb92 ?_
 refine .f (less_fc pY (aY.mul pW) (by omega) (by omega)) hb109 ?_
 refine .k 1 (fun fs10 hfs10 => ?_)
 refine .r 11 (by simp only[ln, hfs8, hfs9, hfs10];omega) ?_
 refine hK7 _ ?_
 refine .sq fun K11 hK11 => ?_
 have bQ := pX.sub (aX.mul pW)
 have bR := pY.sub (aY.mul pW)
 have hs : FC Try.prog 85 [numI ((s.b.x - s.a.x) * (p.y.v - s.a.y * p.w.v) - (s.b.y - s.a.y) * (p.x.v - s.a.x * p.w.v))] (.int .i64 (sdF s p)) := sign_fc (sdZ s p)
 refine .d 22 ?_
 refine .k 7 (fun fs12 hfs12 => ?_)
 refine .f (whole_fc (s.b.x - s.a.x) (by omega) (by omega)) hb89 ?_
 refine .k 1 (fun fs13 hfs13 => ?_)
 refine .f (by_fc dX' bR (by omega) (by omega)) hb92 ?_
 refine .k 7 (fun fs14 hfs14 => ?_)
 refine .f (whole_fc (s.b.y - s.a.y) (by omega) (by omega)) hb89 ?_
 refine .k 1 (fun fs15 hfs15 => ?_)
 refine .f (by_fc dY' bQ (by omega) (by omega)) hb92 ?_
 refine .f (less_fc (dX'.mul bR) (dY'.mul bQ) (by omega) (by omega)) hb109 ?_
 refine .f hs hb85 ?_
 refine .r 22 (by simp only[ln, hfs12, hfs13, hfs14, hfs15];omega) ?_
 refine hK11 _ ?_
 refine .ret ?_
 exact hK _ _ _ _ trivial (Fin.m)
end
section
attribute [local simp] idf_numS cells_numS numS_fold idf_numI cells_numI numI_fold Sp.av Sp.cells Sg.av Sg.cells Pt.av Pt.cells
set_option maxHeartbeats 4000000 in
theorem onSegI_fc (s : Sg) (p : Pt) (gs : s.good = true) (hp : p.ok) : FC Try.prog 127 [s.av, p.av] (.bool (onF s p)) := by
 have c1 := cmpPoints_fc (ptS s.a) p (pt3_ok _ _ _) hp
 have c2 := cmpPoints_fc p (ptS s.b) hp (pt3_ok _ _ _)
 have o1 := pointOfI_fc s.a (good_a gs)
 have o2 := pointOfI_fc s.b (good_b gs)
 refine .b Try.func127 25 (fun nx K hK => ?_) (hi := by simp [idfL, idf, Sp.av, Sp.cells, Sg.av, Sg.cells, Pt.av, Pt.cells])
 refine .q ?_
 refine .sq fun K2 hK2 => ?_
 cases k1 : decide (cmV (ptS s.a) p ≤ 0)
 ·refine .d 20 ?_
  refine .k 2 (fun fs3 hfs3 => ?_) (by simp (disch := first|omega|(simp only[ln];omega)) [runDf.eq_def, runF1, runF2, stepF.eq_def, updo.eq_def, hupo.eq_def, opSto1.eq_def, List.take_succ_cons, List.take_zero, k1]; rfl)
  refine .f o1 hb50 ?_ (ha := by simp (disch := first|omega|(simp only[ln];omega)) [idf_Wd', k1])
  refine .k 1 (fun fs4 hfs4 => ?_) (by simp (disch := first|omega|(simp only[ln];omega)) [runDf.eq_def, runF1, runF2, stepF.eq_def, updo.eq_def, hupo.eq_def, opSto1.eq_def, List.take_succ_cons, List.take_zero, k1]; rfl)
  refine .f c1 hb80 ?_ (ha := by simp (disch := first|omega|(simp only[ln];omega)) [idf_Wd', k1])
  refine .k 15 (fun fs5 hfs5 => ?_) (by simp (disch := first|omega|(simp only[ln];omega)) [runDf.eq_def, runF1, runF2, stepF.eq_def, updo.eq_def, hupo.eq_def, opSto1.eq_def, List.take_succ_cons, List.take_zero, k1]; rfl)
  refine .r 20 (by simp only[ln, hfs3, hfs4, hfs5];omega) ?_ (by simp (disch := first|omega|(simp only[ln];omega)) [runDf.eq_def, runF1, runF2, stepF.eq_def, updo.eq_def, hupo.eq_def, opSto1.eq_def, k1]; rfl)
  refine hK2 _ ?_
  refine .ret ?_
  exact hK _ _ _ _ trivial ((Fin.m).cast (by unfold onF; rw [k1]; rfl))
 ·cases k2 : decide (cmV p (ptS s.b) ≤ 0)
  ·refine .d 20 ?_
   refine .k 2 (fun fs6 hfs6 => ?_) (by simp (disch := first|omega|(simp only[ln];omega)) [runDf.eq_def, runF1, runF2, stepF.eq_def, updo.eq_def, hupo.eq_def, opSto1.eq_def, List.take_succ_cons, List.take_zero, k1, k2]; rfl)
   refine .f o1 hb50 ?_ (ha := by simp (disch := first|omega|(simp only[ln];omega)) [idf_Wd', k1, k2])
   refine .k 1 (fun fs7 hfs7 => ?_) (by simp (disch := first|omega|(simp only[ln];omega)) [runDf.eq_def, runF1, runF2, stepF.eq_def, updo.eq_def, hupo.eq_def, opSto1.eq_def, List.take_succ_cons, List.take_zero, k1, k2]; rfl)
   refine .f c1 hb80 ?_ (ha := by simp (disch := first|omega|(simp only[ln];omega)) [idf_Wd', k1, k2])
   refine .k 5 (fun fs8 hfs8 => ?_) (by simp (disch := first|omega|(simp only[ln];omega)) [runDf.eq_def, runF1, runF2, stepF.eq_def, updo.eq_def, hupo.eq_def, opSto1.eq_def, List.take_succ_cons, List.take_zero, k1, k2]; rfl)
   refine .f o2 hb50 ?_ (ha := by simp (disch := first|omega|(simp only[ln];omega)) [idf_Wd', k1, k2])
   refine .f c2 hb80 ?_ (ha := by simp (disch := first|omega|(simp only[ln];omega)) [idf_Wd', k1, k2])
   refine .k 8 (fun fs9 hfs9 => ?_) (by simp (disch := first|omega|(simp only[ln];omega)) [runDf.eq_def, runF1, runF2, stepF.eq_def, updo.eq_def, hupo.eq_def, opSto1.eq_def, List.take_succ_cons, List.take_zero, k1, k2]; rfl)
   refine .r 20 (by simp only[ln, hfs6, hfs7, hfs8, hfs9];omega) ?_ (by simp (disch := first|omega|(simp only[ln];omega)) [runDf.eq_def, runF1, runF2, stepF.eq_def, updo.eq_def, hupo.eq_def, opSto1.eq_def, k1, k2]; rfl)
   refine hK2 _ ?_
   refine .ret ?_
   exact hK _ _ _ _ trivial ((Fin.m).cast (by unfold onF; rw [k1, k2]; rfl))
  ·refine .d 20 ?_
   refine .k 2 (fun fs10 hfs10 => ?_) (by simp (disch := first|omega|(simp only[ln];omega)) [runDf.eq_def, runF1, runF2, stepF.eq_def, updo.eq_def, hupo.eq_def, opSto1.eq_def, List.take_succ_cons, List.take_zero, k1, k2]; rfl)
   refine .f o1 hb50 ?_ (ha := by simp (disch := first|omega|(simp only[ln];omega)) [idf_Wd', k1, k2])
   refine .k 1 (fun fs11 hfs11 => ?_) (by simp (disch := first|omega|(simp only[ln];omega)) [runDf.eq_def, runF1, runF2, stepF.eq_def, updo.eq_def, hupo.eq_def, opSto1.eq_def, List.take_succ_cons, List.take_zero, k1, k2]; rfl)
   refine .f c1 hb80 ?_ (ha := by simp (disch := first|omega|(simp only[ln];omega)) [idf_Wd', k1, k2])
   refine .k 5 (fun fs12 hfs12 => ?_) (by simp (disch := first|omega|(simp only[ln];omega)) [runDf.eq_def, runF1, runF2, stepF.eq_def, updo.eq_def, hupo.eq_def, opSto1.eq_def, List.take_succ_cons, List.take_zero, k1, k2]; rfl)
   refine .f o2 hb50 ?_ (ha := by simp (disch := first|omega|(simp only[ln];omega)) [idf_Wd', k1, k2])
   refine .f c2 hb80 ?_ (ha := by simp (disch := first|omega|(simp only[ln];omega)) [idf_Wd', k1, k2])
   refine .k 5 (fun fs13 hfs13 => ?_) (by simp (disch := first|omega|(simp only[ln];omega)) [runDf.eq_def, runF1, runF2, stepF.eq_def, updo.eq_def, hupo.eq_def, opSto1.eq_def, List.take_succ_cons, List.take_zero, k1, k2]; rfl)
   refine .f (sideOfI_fc s p gs hp) hb121 ?_ (ha := by simp (disch := first|omega|(simp only[ln];omega)) [idf_Wd', k1, k2])
   refine .k 2 (fun fs14 hfs14 => ?_) (by simp (disch := first|omega|(simp only[ln];omega)) [runDf.eq_def, runF1, runF2, stepF.eq_def, updo.eq_def, hupo.eq_def, opSto1.eq_def, List.take_succ_cons, List.take_zero, k1, k2]; rfl)
   refine .r 20 (by simp only[ln, hfs10, hfs11, hfs12, hfs13, hfs14];omega) ?_ (by simp (disch := first|omega|(simp only[ln];omega)) [runDf.eq_def, runF1, runF2, stepF.eq_def, updo.eq_def, hupo.eq_def, opSto1.eq_def, k1, k2]; rfl)
   refine hK2 _ ?_
   refine .ret ?_
   exact hK _ _ _ _ trivial ((Fin.mk (r := .bool (sdF s p == 0)) (by simp [aRes, aResL, aRes1]; try rfl)).cast (by unfold onF; rw [k1, k2]; rfl))
set_option maxHeartbeats 2000000 in
theorem onSegF_fc (s : Sg) (p : Pt) (hp : p.ok) : FC Try.prog 43 [s.av, p.av] (.bool (onSF s p)) := by
 refine .b Try.func43 16 (fun nx K hK => ?_) (hi := by simp [idfL, idf, Sp.av, Sp.cells, Sg.av, Sg.cells, Pt.av, Pt.cells])
 refine .q ?_
 refine .sq fun K2 hK2 => ?_
 cases gs : s.good
 ·refine .region ?_
  refine .kf 1 (segOkI_fc s) hb48 ?_ (by simp (disch := first|omega|(simp only[ln];omega)) [List.take_succ_cons, List.take_zero, gs]; rfl) (ha := by simp (disch := first|omega|(simp only[ln];omega)) [idf_Wd', gs])
  refine .e ?_ (by simp (disch := first|omega|(simp only[ln];omega)) [gs]; rfl)
  refine hK2 _ ?_
  refine .ret ?_
  exact hK _ _ _ _ trivial ((Fin.m).cast (by unfold onSF; rw [gs]; rfl))
 ·cases gp : p.good
  ·refine .region ?_
   refine .kf 1 (segOkI_fc s) hb48 ?_ (by simp (disch := first|omega|(simp only[ln];omega)) [List.take_succ_cons, List.take_zero, gs, gp]; rfl) (ha := by simp (disch := first|omega|(simp only[ln];omega)) [idf_Wd', gs, gp])
   refine .kf 2 (pointOkI_fc p hp) hb19 ?_ (by simp (disch := first|omega|(simp only[ln];omega)) [List.take_succ_cons, List.take_zero, gs, gp]; rfl) (ha := by simp (disch := first|omega|(simp only[ln];omega)) [idf_Wd', gs, gp])
   refine .e ?_ (by simp (disch := first|omega|(simp only[ln];omega)) [gs, gp]; rfl)
   refine hK2 _ ?_
   refine .ret ?_
   exact hK _ _ _ _ trivial ((Fin.m).cast (by unfold onSF; rw [gs, gp]; rfl))
  ·refine .region ?_
   refine .kf 1 (segOkI_fc s) hb48 ?_ (by simp (disch := first|omega|(simp only[ln];omega)) [List.take_succ_cons, List.take_zero, gs, gp]; rfl) (ha := by simp (disch := first|omega|(simp only[ln];omega)) [idf_Wd', gs, gp])
   refine .kf 2 (pointOkI_fc p hp) hb19 ?_ (by simp (disch := first|omega|(simp only[ln];omega)) [List.take_succ_cons, List.take_zero, gs, gp]; rfl) (ha := by simp (disch := first|omega|(simp only[ln];omega)) [idf_Wd', gs, gp])
   refine .kf 4 (onSegI_fc s p gs hp) hb127 ?_ (by simp (disch := first|omega|(simp only[ln];omega)) [List.take_succ_cons, List.take_zero, gs, gp]; rfl) (ha := by simp (disch := first|omega|(simp only[ln];omega)) [idf_Wd', gs, gp])
   refine .e ?_ (by simp (disch := first|omega|(simp only[ln];omega)) [gs, gp]; rfl)
   refine hK2 _ ?_
   refine .ret ?_
   exact hK _ _ _ _ trivial ((Fin.m).cast (by unfold onSF; rw [gs, gp]; rfl))
end
section
attribute [local simp] idf_numS cells_numS numS_fold idf_numI cells_numI numI_fold Sp.av Sp.cells Sg.av Sg.cells Pt.av Pt.cells spA spC numC
end

end Go.Proofs.Ytmaebeknmiomnaa

/- Walks: FnNearOf, walked. -/
namespace Go.Proofs.Ytmaebeknmiomnaa
open Go Go.RowKit
set_option linter.unusedSimpArgs false
set_option linter.unusedVariables false
set_option maxRecDepth 100000
attribute [local simp] szT2 byT2 agT2 unT2 zoT2 szT4 byT4 agT4 unT4 zoT4 szT26 byT26 agT26 flT26 fdT26_0 fdT26_1 fdT26_2 fdT26_3 zoT26 szT51 byT51 agT51 flT51 fdT51_0 fdT51_1 zoT51 szT67 byT67 agT67 flT67 fdT67_0 fdT67_1 zoT67 szT69 byT69 agT69 flT69 fdT69_0 fdT69_1 zoT69 szT111 byT111 agT111 elT111 unT111 zoT111 szT113 byT113 agT113 flT113 fdT113_0 fdT113_1 zoT113 szT117 byT117 agT117 elT117 unT117 zoT117 szT119 byT119 agT119 flT119 fdT119_0 fdT119_1 zoT119 szT143 byT143 agT143 flT143 fdT143_0 fdT143_1 zoT143 szT161 byT161 agT161 flT161 fdT161_0 fdT161_1 zoT161
theorem near_p {s : Sg} {p : Sp} (gs : s.good = true) (gp : p.good = true) : (-4000000000000 ≤ (p.x - s.a.x) * (p.x - s.a.x) ∧ (p.x - s.a.x) * (p.x - s.a.x) ≤ 4000000000000) ∧ (-4000000000000 ≤ (p.y - s.a.y) * (p.y - s.a.y) ∧ (p.y - s.a.y) * (p.y - s.a.y) ≤ 4000000000000) ∧ (-4000000000000 ≤ (p.x - s.b.x) * (p.x - s.b.x) ∧ (p.x - s.b.x) * (p.x - s.b.x) ≤ 4000000000000) ∧ (-4000000000000 ≤ (p.y - s.b.y) * (p.y - s.b.y) ∧ (p.y - s.b.y) * (p.y - s.b.y) ≤ 4000000000000) ∧ (-4000000000000 ≤ (s.b.x - s.a.x) * (p.y - s.a.y) ∧ (s.b.x - s.a.x) * (p.y - s.a.y) ≤ 4000000000000) ∧ (-4000000000000 ≤ (s.b.y - s.a.y) * (p.x - s.a.x) ∧ (s.b.y - s.a.y) * (p.x - s.a.x) ≤ 4000000000000) ∧ (-4000000000000 ≤ (s.b.x - s.a.x) * (s.b.x - s.a.x) ∧ (s.b.x - s.a.x) * (s.b.x - s.a.x) ≤ 4000000000000) ∧ (-4000000000000 ≤ (s.b.y - s.a.y) * (s.b.y - s.a.y) ∧ (s.b.y - s.a.y) * (s.b.y - s.a.y) ≤ 4000000000000) ∧ (-4000000000000 ≤ (p.x - s.a.x) * (s.b.x - s.a.x) ∧ (p.x - s.a.x) * (s.b.x - s.a.x) ≤ 4000000000000) ∧ (-4000000000000 ≤ (p.y - s.a.y) * (s.b.y - s.a.y) ∧ (p.y - s.a.y) * (s.b.y - s.a.y) ≤ 4000000000000) := by
  obtain ⟨a1, a2, a3, a4⟩ := Sp.b (good_a gs)
  obtain ⟨b1, b2, b3, b4⟩ := Sp.b (good_b gs)
  obtain ⟨p1, p2, p3, p4⟩ := Sp.b gp
  have m : ∀ u v : Int, -2000000 ≤ u → u ≤ 2000000 → -2000000 ≤ v → v ≤ 2000000 → -4000000000000 ≤ u * v ∧ u * v ≤ 4000000000000 := fun u v h1 h2 h3 h4 => mul_b (m := 2000000) (n := 2000000) (by omega) h1 h2 h3 h4
  refine ⟨?_, ?_, ?_, ?_, ?_, ?_, ?_, ?_, ?_, ?_⟩ <;> exact m _ _ (by omega) (by omega) (by omega) (by omega)
theorem low_one (u : Int) : lowU u 1 = u ∧ lowD u 1 = 1 := by
  have g : gg u 1 = 1 := by simp [gg]
  have h := low_pos (u := u) (d := 1) (by omega)
  rw [g] at h
  simpa using h
theorem neEq {s : Sg} {p : Sp} (h : s.good = true) (hp : p.good = true) : neF s p = told (nrQ s p).1 (nrQ s p).2 := by unfold neF; rw [h, hp]; rfl

section
attribute [local simp] idf_numS cells_numS numS_fold idf_numI cells_numI numI_fold Sp.av Sp.cells Sg.av Sg.cells rtA rtC
set_option maxHeartbeats 4000000 in
theorem near2I_fc (s : Sg) (p : Sp) (gs : s.good = true) (gp : p.good = true) : FC Try.prog 131 [s.av, p.av] (rtA (nrQ s p).1 (nrQ s p).2) := by
 obtain ⟨ax0, ax1, ay0, ay1⟩ := Sp.b (good_a gs)
 obtain ⟨bx0, bx1, by0, by1⟩ := Sp.b (good_b gs)
 obtain ⟨px0, px1, py0, py1⟩ := Sp.b gp
 obtain ⟨c1, c2, c3, c4, c5, c6, c7, c8, c9, c10⟩ := near_p gs gp
 have hlp := nLen_pos gs
 have eL : nLen s = (s.b.x - s.a.x) * (s.b.x - s.a.x) + (s.b.y - s.a.y) * (s.b.y - s.a.y) := rfl
 have eD : nDot s p = (p.x - s.a.x) * (s.b.x - s.a.x) + (p.y - s.a.y) * (s.b.y - s.a.y) := rfl
 have eC : nCrs s p = (s.b.x - s.a.x) * (p.y - s.a.y) - (s.b.y - s.a.y) * (p.x - s.a.x) := rfl
 have cu := near_b gs gp
 have bC : Bg 1 (nCrs s p) := Bg.i64 (by omega) (by omega)
 refine .b Try.func131 98 (fun nx K hK => ?_) (hi := by simp [idfL, idf, Sp.av, Sp.cells, Sg.av, Sg.cells]) (hr := by simp [idfL, idf, idf_Wd', rtA, rtC])
 refine .q ?_
 refine .sq fun K2 hK2 => ?_
 refine .df 14 ?_
 refine hK2 _ ?_
 refine .q ?_
 refine .q ?_
 refine .q ?_
 refine .sq fun K6 hK6 => ?_
 refine .block ?_
 refine .sq fun K7 hK7 => ?_
 by_cases q1 : nDot s p ≤ 0
 ·have d1 : decide (0 < (p.x - s.a.x) * (s.b.x - s.a.x) + (p.y - s.a.y) * (s.b.y - s.a.y)) = false := decide_eq_false (by omega)
  have d2 : decide ((s.b.x - s.a.x) * (s.b.x - s.a.x) + (s.b.y - s.a.y) * (s.b.y - s.a.y) ≤ (p.x - s.a.x) * (s.b.x - s.a.x) + (p.y - s.a.y) * (s.b.y - s.a.y)) = false := decide_eq_false (by omega)
  refine .r ?_ (by simp (disch := first|omega|(simp only[ln];omega)) [d1, d2]; rfl)
  refine hK7 _ ?_
  refine .c (fun h51 => ?_) (fun h51 => ?_)
  ·simp at h51
  ·try simp only[dc]at h51
   refine .q ?_ (by simp (disch := first|omega|(simp only[ln];omega)) [d2]; rfl)
   refine .c (fun h72 => ?_) (fun h72 => ?_)
   ·simp at h72
   ·try simp only[dc]at h72
    refine .skip ?_
    refine hK6 _ ?_
    refine .sq fun K9 hK9 => ?_
    refine .df 10 ?_
    refine hK9 _ ?_
    refine .sq fun K10 hK10 => ?_
    refine .region ?_
    refine .kf 7 (whole_fc ((p.x - s.a.x) * (p.x - s.a.x) + (p.y - s.a.y) * (p.y - s.a.y)) (by omega) (by omega)) hb89 ?_
    refine .f (whole_fc 1 (by omega) (by omega)) hb89 ?_
    refine .e ?_
    refine hK10 _ ?_
    refine .ret ?_
    exact hK _ _ _ _ trivial ((Fin.m).cast (by unfold nrQ; rw [if_pos q1]; rfl))
 ·by_cases q2 : nLen s ≤ nDot s p
  ·have d1 : decide (0 < (p.x - s.a.x) * (s.b.x - s.a.x) + (p.y - s.a.y) * (s.b.y - s.a.y)) = true := decide_eq_true (by omega)
   have d2 : decide ((s.b.x - s.a.x) * (s.b.x - s.a.x) + (s.b.y - s.a.y) * (s.b.y - s.a.y) ≤ (p.x - s.a.x) * (s.b.x - s.a.x) + (p.y - s.a.y) * (s.b.y - s.a.y)) = true := decide_eq_true (by omega)
   have d3 : decide ((p.x - s.a.x) * (s.b.x - s.a.x) + (p.y - s.a.y) * (s.b.y - s.a.y) < (s.b.x - s.a.x) * (s.b.x - s.a.x) + (s.b.y - s.a.y) * (s.b.y - s.a.y)) = false := decide_eq_false (by omega)
   refine .r ?_ (by simp (disch := first|omega|(simp only[ln];omega)) [d1, d2, d3]; rfl)
   refine hK7 _ ?_
   refine .c (fun h51 => ?_) (fun h51 => ?_)
   ·simp at h51
   ·try simp only[dc]at h51
    refine .q ?_ (by simp (disch := first|omega|(simp only[ln];omega)) [d2]; rfl)
    refine .c (fun h72 => ?_) (fun h72 => ?_)
    ·try simp only[dc]at h72
     refine .r ?_
     refine hK6 _ ?_
     refine .sq fun K12 hK12 => ?_
     refine .df 10 ?_
     refine hK12 _ ?_
     refine .sq fun K13 hK13 => ?_
     refine .region ?_
     refine .kf 7 (whole_fc ((p.x - s.b.x) * (p.x - s.b.x) + (p.y - s.b.y) * (p.y - s.b.y)) (by omega) (by omega)) hb89 ?_
     refine .f (whole_fc 1 (by omega) (by omega)) hb89 ?_
     refine .e ?_
     refine hK13 _ ?_
     refine .ret ?_
     exact hK _ _ _ _ trivial ((Fin.m).cast (by unfold nrQ; rw [if_neg q1, if_pos q2]; rfl))
    ·simp at h72
  ·have d1 : decide (0 < (p.x - s.a.x) * (s.b.x - s.a.x) + (p.y - s.a.y) * (s.b.y - s.a.y)) = true := decide_eq_true (by omega)
   have d2 : decide ((s.b.x - s.a.x) * (s.b.x - s.a.x) + (s.b.y - s.a.y) * (s.b.y - s.a.y) ≤ (p.x - s.a.x) * (s.b.x - s.a.x) + (p.y - s.a.y) * (s.b.y - s.a.y)) = false := decide_eq_false (by omega)
   have d3 : decide ((p.x - s.a.x) * (s.b.x - s.a.x) + (p.y - s.a.y) * (s.b.y - s.a.y) < (s.b.x - s.a.x) * (s.b.x - s.a.x) + (s.b.y - s.a.y) * (s.b.y - s.a.y)) = true := decide_eq_true (by omega)
   refine .r ?_ (by simp (disch := first|omega|(simp only[ln];omega)) [d1, d2, d3]; rfl)
   refine hK7 _ ?_
   refine .c (fun h51 => ?_) (fun h51 => ?_)
   ·try simp only[dc]at h51
    refine .sq fun K14 hK14 => ?_
    have cr : FC Try.prog 187 [s.a.av, s.b.av, p.av] (.int .i64 (nCrs s p)) := cross_fc s.a s.b p (good_a gs) (good_b gs) gp
    refine .region ?_
    refine .kf 5 cr hb187 ?_
    refine .f (whole_fc (nCrs s p) (by omega) (by omega)) hb89 ?_
    refine .e ?_
    refine hK14 _ ?_
    refine .sq fun K15 hK15 => ?_
    refine .region ?_
    refine .kf 2 (by_fc bC bC (by omega) (by omega)) hb92 ?_
    refine .kf 1 (whole_fc ((s.b.x - s.a.x) * (s.b.x - s.a.x) + (s.b.y - s.a.y) * (s.b.y - s.a.y)) (by omega) (by omega)) hb89 ?_
    refine .e ?_
    refine hK15 _ ?_
    refine .ret ?_
    exact hK _ _ _ _ trivial ((Fin.m).cast (by unfold nrQ; rw [if_neg q1, if_neg q2]; rfl))
   ·simp at h51
end
section
attribute [local simp] idf_numS cells_numS numS_fold idf_numI cells_numI numI_fold Sp.av Sp.cells Sg.av Sg.cells l2A l2C
set_option maxHeartbeats 4000000 in
theorem near2S_fc (s : Sg) (p : Sp) (gs : s.good = true) (gp : p.good = true) : FC Try.prog 133 [s.av, p.av] (l2A (lowU (nrQ s p).1 (nrQ s p).2) (lowD (nrQ s p).1 (nrQ s p).2)) := by
 obtain ⟨ax0, ax1, ay0, ay1⟩ := Sp.b (good_a gs)
 obtain ⟨bx0, bx1, by0, by1⟩ := Sp.b (good_b gs)
 obtain ⟨px0, px1, py0, py1⟩ := Sp.b gp
 obtain ⟨c1, c2, c3, c4, c5, c6, c7, c8, c9, c10⟩ := near_p gs gp
 have hlp := nLen_pos gs
 have eL : nLen s = (s.b.x - s.a.x) * (s.b.x - s.a.x) + (s.b.y - s.a.y) * (s.b.y - s.a.y) := rfl
 have eD : nDot s p = (p.x - s.a.x) * (s.b.x - s.a.x) + (p.y - s.a.y) * (s.b.y - s.a.y) := rfl
 have eC : nCrs s p = (s.b.x - s.a.x) * (p.y - s.a.y) - (s.b.y - s.a.y) * (p.x - s.a.x) := rfl
 have cu := near_b gs gp
 have bC : Bg 1 (nCrs s p) := Bg.i64 (by omega) (by omega)
 refine .b Try.func133 105 (fun nx K hK => ?_) (hi := by simp [idfL, idf, Sp.av, Sp.cells, Sg.av, Sg.cells]) (hr := by simp [idfL, idf, l2A, l2C, idf_Wd'])
 refine .q ?_
 refine .q ?_
 refine .q ?_
 refine .q ?_
 refine .q ?_
 refine .q ?_
 refine .q ?_
 refine .sq fun K8 hK8 => ?_
 refine .sq fun K9 hK9 => ?_
 by_cases q1 : nDot s p ≤ 0
 ·have d1 : decide ((p.x - s.a.x) * (s.b.x - s.a.x) + (p.y - s.a.y) * (s.b.y - s.a.y) ≤ 0) = true := decide_eq_true (by omega)
  refine .r ?_ (by simp (disch := first|omega|(simp only[ln];omega)) [d1]; rfl)
  refine hK9 _ ?_
  refine .c (fun h55 => ?_) (fun h55 => ?_)
  ·try simp only[dc]at h55
   refine .sq fun K10 hK10 => ?_
   refine .region ?_
   refine .kf 7 (l1Int_fc ((p.x - s.a.x) * (p.x - s.a.x) + (p.y - s.a.y) * (p.y - s.a.y)) (by omega) (by omega)) hb106 ?_
   refine .f (l1Int_fc 1 (by omega) (by omega)) hb106 ?_
   refine .e ?_
   refine hK10 _ ?_
   refine .ret ?_
   exact hK _ _ _ _ trivial ((Fin.m).cast (by unfold nrQ; rw [if_pos q1]; simp only [low_one]; rfl))
  ·simp at h55
 ·by_cases q2 : nLen s ≤ nDot s p
  ·have d1 : decide ((p.x - s.a.x) * (s.b.x - s.a.x) + (p.y - s.a.y) * (s.b.y - s.a.y) ≤ 0) = false := decide_eq_false (by omega)
   have d2 : decide ((s.b.x - s.a.x) * (s.b.x - s.a.x) + (s.b.y - s.a.y) * (s.b.y - s.a.y) ≤ (p.x - s.a.x) * (s.b.x - s.a.x) + (p.y - s.a.y) * (s.b.y - s.a.y)) = true := decide_eq_true (by omega)
   refine .r ?_ (by simp (disch := first|omega|(simp only[ln];omega)) [d1]; rfl)
   refine hK9 _ ?_
   refine .c (fun h55 => ?_) (fun h55 => ?_)
   ·simp at h55
   ·try simp only[dc]at h55
    refine .skip ?_
    refine hK8 _ ?_
    refine .sq fun K11 hK11 => ?_
    refine .q ?_ (by simp (disch := first|omega|(simp only[ln];omega)) [d2]; rfl)
    refine .c (fun h68 => ?_) (fun h68 => ?_)
    ·try simp only[dc]at h68
     refine .q ?_
     refine .q ?_
     refine .sq fun K15 hK15 => ?_
     refine .region ?_
     refine .kf 7 (l1Int_fc ((p.x - s.b.x) * (p.x - s.b.x) + (p.y - s.b.y) * (p.y - s.b.y)) (by omega) (by omega)) hb106 ?_
     refine .f (l1Int_fc 1 (by omega) (by omega)) hb106 ?_
     refine .e ?_
     refine hK15 _ ?_
     refine .ret ?_
     exact hK _ _ _ _ trivial ((Fin.m).cast (by unfold nrQ; rw [if_neg q1, if_pos q2]; simp only [low_one]; rfl))
    ·simp at h68
  ·have d1 : decide ((p.x - s.a.x) * (s.b.x - s.a.x) + (p.y - s.a.y) * (s.b.y - s.a.y) ≤ 0) = false := decide_eq_false (by omega)
   have d2 : decide ((s.b.x - s.a.x) * (s.b.x - s.a.x) + (s.b.y - s.a.y) * (s.b.y - s.a.y) ≤ (p.x - s.a.x) * (s.b.x - s.a.x) + (p.y - s.a.y) * (s.b.y - s.a.y)) = false := decide_eq_false (by omega)
   refine .r ?_ (by simp (disch := first|omega|(simp only[ln];omega)) [d1]; rfl)
   refine hK9 _ ?_
   refine .c (fun h55 => ?_) (fun h55 => ?_)
   ·simp at h55
   ·try simp only[dc]at h55
    refine .skip ?_
    refine hK8 _ ?_
    refine .sq fun K16 hK16 => ?_
    refine .q ?_ (by simp (disch := first|omega|(simp only[ln];omega)) [d2]; rfl)
    refine .c (fun h68 => ?_) (fun h68 => ?_)
    ·simp at h68
    ·try simp only[dc]at h68
     refine .skip ?_
     refine hK16 _ ?_
     refine .sq fun K18 hK18 => ?_
     have i1 := l1Int_fc ((s.b.x - s.a.x) * (p.y - s.a.y) - (s.b.y - s.a.y) * (p.x - s.a.x)) (by omega) (by omega)
     rw [← eC] at i1
     have i2 := l1Int_fc ((s.b.x - s.a.x) * (s.b.x - s.a.x) + (s.b.y - s.a.y) * (s.b.y - s.a.y)) (by omega) (by omega)
     rw [← eL] at i2
     have mk := l2Make_fc (j := 2) (nCrs s p * nCrs s p) (nLen s) (by omega) (bC.mul bC) (Bg.le (j := 1) (Bg.i64 (by omega) (by omega)) (by omega)) (by omega) (by omega)
     refine .region ?_
     refine .kf 7 i1 hb106 ?_ (by simp (disch := first|omega|(simp only[ln];omega)) [List.take_succ_cons, List.take_zero, ← eC]; rfl) (ha := by simp (disch := first|omega|(simp only[ln];omega)) [idf_Wd', ← eC])
     refine .e ?_ (by simp (disch := first|omega|(simp only[ln];omega)) [← eC]; rfl)
     refine hK18 _ ?_
     refine .sq fun K19 hK19 => ?_
     refine .region ?_
     refine .kf 2 (l1Mul_fc bC bC (by omega) (by omega)) hb105 ?_ (by simp (disch := first|omega|(simp only[ln];omega)) [List.take_succ_cons, List.take_zero, ← eL]; rfl) (ha := by simp (disch := first|omega|(simp only[ln];omega)) [idf_Wd', ← eL])
     refine .kf 1 i2 hb106 ?_ (by simp (disch := first|omega|(simp only[ln];omega)) [List.take_succ_cons, List.take_zero, ← eL]; rfl) (ha := by simp (disch := first|omega|(simp only[ln];omega)) [idf_Wd', ← eL])
     refine .f mk hb203 ?_ (ha := by simp (disch := first|omega|(simp only[ln];omega)) [idf_Wd', ← eL])
     refine .e ?_ (by simp (disch := first|omega|(simp only[ln];omega)) [← eL]; rfl)
     refine hK19 _ ?_
     refine .ret ?_
     exact hK _ _ _ _ trivial ((Fin.m).cast (by unfold nrQ; rw [if_neg q1, if_neg q2]; rfl))
end
section
attribute [local simp] idf_numS cells_numS numS_fold idf_numI cells_numI numI_fold Sp.av Sp.cells Sg.av Sg.cells rtA rtC l2A l2C
set_option maxHeartbeats 2000000 in
theorem nearI_fc (s : Sg) (p : Sp) : FC Try.prog 46 [s.av, p.av] (.tup [.agg [.int .u64 ((neF s p).1).up.a, .int .u64 ((neF s p).1).up.b, .int .u64 ((neF s p).1).up.c, .int .u64 ((neF s p).1).up.d, .int .u64 ((neF s p).1).down.a, .int .u64 ((neF s p).1).down.b, .int .u64 ((neF s p).1).down.c, .int .u64 ((neF s p).1).down.d], .bool (neF s p).2]) := by
 refine .b Try.func46 21 (fun nx K hK => ?_) (hi := by simp [idfL, idf, Sp.av, Sp.cells, Sg.av, Sg.cells])
 refine .q ?_
 refine .sq fun K2 hK2 => ?_
 refine .sq fun K3 hK3 => ?_
 cases gs : s.good
 ·refine .region ?_
  refine .kf 1 (segOkI_fc s) hb48 ?_ (by simp (disch := first|omega|(simp only[ln];omega)) [List.take_succ_cons, List.take_zero, gs]; rfl) (ha := by simp (disch := first|omega|(simp only[ln];omega)) [idf_Wd', gs])
  refine .e ?_ (by simp (disch := first|omega|(simp only[ln];omega)) [gs]; rfl)
  refine hK3 _ ?_
  refine .c (fun h13 => ?_) (fun h13 => ?_)
  ·try simp only[dc]at h13
   refine .q ?_
   refine .ret ?_
   exact hK _ _ _ _ trivial ((Fin.m).cast (by unfold neF; simp [*, Rt0, W40]))
  ·simp at h13
 ·cases gp : p.good
  ·refine .region ?_
   refine .kf 1 (segOkI_fc s) hb48 ?_ (by simp (disch := first|omega|(simp only[ln];omega)) [List.take_succ_cons, List.take_zero, gs, gp]; rfl) (ha := by simp (disch := first|omega|(simp only[ln];omega)) [idf_Wd', gs, gp])
   refine .kf 3 (spotOkI_fc p) hb49 ?_ (by simp (disch := first|omega|(simp only[ln];omega)) [List.take_succ_cons, List.take_zero, gs, gp]; rfl) (ha := by simp (disch := first|omega|(simp only[ln];omega)) [idf_Wd', gs, gp])
   refine .e ?_ (by simp (disch := first|omega|(simp only[ln];omega)) [gs, gp]; rfl)
   refine hK3 _ ?_
   refine .c (fun h13 => ?_) (fun h13 => ?_)
   ·try simp only[dc]at h13
    refine .q ?_
    refine .ret ?_
    exact hK _ _ _ _ trivial ((Fin.m).cast (by unfold neF; simp [*, Rt0, W40]))
   ·simp at h13
  ·refine .region ?_
   refine .kf 1 (segOkI_fc s) hb48 ?_ (by simp (disch := first|omega|(simp only[ln];omega)) [List.take_succ_cons, List.take_zero, gs, gp]; rfl) (ha := by simp (disch := first|omega|(simp only[ln];omega)) [idf_Wd', gs, gp])
   refine .kf 3 (spotOkI_fc p) hb49 ?_ (by simp (disch := first|omega|(simp only[ln];omega)) [List.take_succ_cons, List.take_zero, gs, gp]; rfl) (ha := by simp (disch := first|omega|(simp only[ln];omega)) [idf_Wd', gs, gp])
   refine .e ?_ (by simp (disch := first|omega|(simp only[ln];omega)) [gs, gp]; rfl)
   refine hK3 _ ?_
   refine .c (fun h13 => ?_) (fun h13 => ?_)
   ·simp at h13
   ·try simp only[dc]at h13
    refine .skip ?_
    refine hK2 _ ?_
    refine .sq fun K6 hK6 => ?_
    have hq := nrQ_pos (p := p) gs
    obtain ⟨bq1, bq2⟩ := nrQ_bg gs gp
    refine .region ?_
    refine .kf 2 (near2I_fc s p gs gp) hb131 ?_
    refine .f (told_fc (j := 3) (nrQ s p).1 (nrQ s p).2 bq1 bq2 (by omega)) hb110 ?_
    refine .e ?_
    refine hK6 _ ?_
    refine .ret ?_
    exact hK _ _ _ _ trivial ((Fin.m).cast (by rw [neEq gs gp]))
set_option maxHeartbeats 2000000 in
theorem nearS_fc (s : Sg) (p : Sp) : FC Try.prog 47 [s.av, p.av] (.tup [.agg [.int .u64 ((neF s p).1).up.a, .int .u64 ((neF s p).1).up.b, .int .u64 ((neF s p).1).up.c, .int .u64 ((neF s p).1).up.d, .int .u64 ((neF s p).1).down.a, .int .u64 ((neF s p).1).down.b, .int .u64 ((neF s p).1).down.c, .int .u64 ((neF s p).1).down.d], .bool (neF s p).2]) := by
 refine .b Try.func47 21 (fun nx K hK => ?_) (hi := by simp [idfL, idf, Sp.av, Sp.cells, Sg.av, Sg.cells])
 refine .q ?_
 refine .sq fun K2 hK2 => ?_
 refine .sq fun K3 hK3 => ?_
 cases gs : s.good
 ·refine .region ?_
  refine .kf 1 (segOkS_fc s) hb122 ?_ (by simp (disch := first|omega|(simp only[ln];omega)) [List.take_succ_cons, List.take_zero, gs]; rfl) (ha := by simp (disch := first|omega|(simp only[ln];omega)) [idf_Wd', gs])
  refine .e ?_ (by simp (disch := first|omega|(simp only[ln];omega)) [gs]; rfl)
  refine hK3 _ ?_
  refine .c (fun h13 => ?_) (fun h13 => ?_)
  ·try simp only[dc]at h13
   refine .q ?_
   refine .ret ?_
   exact hK _ _ _ _ trivial ((Fin.m).cast (by unfold neF; simp [*, Rt0, W40]))
  ·simp at h13
 ·cases gp : p.good
  ·refine .region ?_
   refine .kf 1 (segOkS_fc s) hb122 ?_ (by simp (disch := first|omega|(simp only[ln];omega)) [List.take_succ_cons, List.take_zero, gs, gp]; rfl) (ha := by simp (disch := first|omega|(simp only[ln];omega)) [idf_Wd', gs, gp])
   refine .kf 3 (spotOkS_fc p) hb114 ?_ (by simp (disch := first|omega|(simp only[ln];omega)) [List.take_succ_cons, List.take_zero, gs, gp]; rfl) (ha := by simp (disch := first|omega|(simp only[ln];omega)) [idf_Wd', gs, gp])
   refine .e ?_ (by simp (disch := first|omega|(simp only[ln];omega)) [gs, gp]; rfl)
   refine hK3 _ ?_
   refine .c (fun h13 => ?_) (fun h13 => ?_)
   ·try simp only[dc]at h13
    refine .q ?_
    refine .ret ?_
    exact hK _ _ _ _ trivial ((Fin.m).cast (by unfold neF; simp [*, Rt0, W40]))
   ·simp at h13
  ·refine .region ?_
   refine .kf 1 (segOkS_fc s) hb122 ?_ (by simp (disch := first|omega|(simp only[ln];omega)) [List.take_succ_cons, List.take_zero, gs, gp]; rfl) (ha := by simp (disch := first|omega|(simp only[ln];omega)) [idf_Wd', gs, gp])
   refine .kf 3 (spotOkS_fc p) hb114 ?_ (by simp (disch := first|omega|(simp only[ln];omega)) [List.take_succ_cons, List.take_zero, gs, gp]; rfl) (ha := by simp (disch := first|omega|(simp only[ln];omega)) [idf_Wd', gs, gp])
   refine .e ?_ (by simp (disch := first|omega|(simp only[ln];omega)) [gs, gp]; rfl)
   refine hK3 _ ?_
   refine .c (fun h13 => ?_) (fun h13 => ?_)
   ·simp at h13
   ·try simp only[dc]at h13
    refine .skip ?_
    refine hK2 _ ?_
    refine .sq fun K6 hK6 => ?_
    have hq := nrQ_pos (p := p) gs
    obtain ⟨bq1, bq2⟩ := nrQ_bg gs gp
    refine .region ?_
    refine .kf 2 (near2S_fc s p gs gp) hb133 ?_
    refine .f (l2Ratio_fc (j := 3) (nrQ s p).1 (nrQ s p).2 (by omega) bq1 bq2 (by omega)) hb132 ?_
    refine .e ?_
    refine hK6 _ ?_
    refine .ret ?_
    exact hK _ _ _ _ trivial ((Fin.m).cast (by rw [neEq gs gp]))
end
section
attribute [local simp] Sp.av Sp.cells Sg.av Sg.cells
set_option maxHeartbeats 8000000 in
theorem drawNear2_ac (l : List Int) (H : Heap) (nx : Nat) (dl : Dig 256 l) (hl : l.length ≤ 1048576) (hd : ∀ i q, H i = some q → i < nx) : ACall Try.prog 45 [Wd .u8 l] H nx (fun r H' nx' => (∃ (s : Sg) (p : Sp), s.ok ∧ p.ok ∧ r = .tup [.agg [.int .i64 (s).a.x, .int .i64 (s).a.y, .int .i64 (s).b.x, .int .i64 (s).b.y], .agg [.int .i64 (p).x, .int .i64 (p).y]]) ∧ H' = H ∧ nx ≤ nx') := by
 refine .b Try.func45 21 fun K hK => ?_
 refine .q ?_
 refine .sq fun K2 hK2 => ?_
 refine .region ?_
 refine .k 1 ?_
 refine AOPS.old fun hold1 => ?_
 refine .a (open_ac l _ _) hb76 ?_
 rintro _ _ nx1 ⟨rfl, rfl, rfl⟩
 clear hold1
 obtain ⟨id, hid⟩ : ∃ id, id = nx + 1 + 1 := ⟨_, rfl⟩
 obtain ⟨p, hH⟩ : ∃ p : Nat, p = 0 := ⟨_, rfl⟩
 have hp : p ≤ l.length := by omega
 simp only []
 rw [← hid]
 refine .e ?_
 refine hK2 _ ?_
 refine .sq fun K3 hK3 => ?_
 refine .region ?_
 refine .k 1 ?_
 refine AOPS.old fun hold1 => ?_
 refine .a (seg_ac l p id _ _ dl hl hp (by simp (disch := omega) [hH]) hold1) hb128 ?_
 rintro _ _ nx2 ⟨⟨S, rfl, So⟩, ⟨p2, hp2, rfl⟩, hnx2⟩
 try simp only [] at hnx2
 clear hold1
 refine .e ?_
 refine hK3 _ ?_
 refine .sq fun K4 hK4 => ?_
 refine .sq fun K5 hK5 => ?_
 refine .region ?_
 refine .k 1 ?_
 refine AOPS.old fun hold1 => ?_
 refine .a (once_ac 10 (by omega) (by omega) l p2 id _ _ dl hl hp2 (by simp (disch := omega) [hH]) hold1) hb78 ?_
 rintro _ _ nx3 ⟨⟨b, rfl⟩, ⟨p3, hp3, rfl⟩, hnx3⟩
 try simp only [] at hnx3
 clear hold1
 refine .nil ?_
 refine hK5 _ ?_
 refine .c (t := b) (fun h11 => ?_) (fun h11 => ?_)
 ·try simp only[dc]at h11
  refine .sq fun K6 hK6 => ?_
  refine .any Try.checked.mixed ?_
  refine AAny.step [0, 1, 3] (by kernel_rfl) (by simp) ?_
  intro i hi o ho
  simp only [List.mem_cons, List.not_mem_nil, or_false] at hi
  rcases hi with rfl | rfl | rfl
  ·simp only [List.getElem?_toArray, List.getElem?_cons_zero, List.getElem?_cons_succ, Option.some.injEq] at ho
   subst ho
   refine .e ?_
   refine AAny.step [1, 3] (by kernel_rfl) (by simp) ?_
   intro i hi o ho
   simp only [List.mem_cons, List.not_mem_nil, or_false] at hi
   rcases hi with rfl | rfl
   ·simp only [List.getElem?_toArray, List.getElem?_cons_zero, List.getElem?_cons_succ, Option.some.injEq] at ho
    subst ho
    refine .e ?_
    refine AAny.step [2, 3] (by kernel_rfl) (by simp) ?_
    intro i hi o ho
    simp only [List.mem_cons, List.not_mem_nil, or_false] at hi
    rcases hi with rfl | rfl
    ·simp only [List.getElem?_toArray, List.getElem?_cons_zero, List.getElem?_cons_succ, Option.some.injEq] at ho
     subst ho
     refine AOPS.old fun hold2 => ?_
     refine .a (off_ac l p3 id _ _ dl hl hp3 (by simp (disch := omega) [hH]) hold2) hb129 ?_
     rintro _ _ nx4 ⟨⟨ka, rfl, kai⟩, ⟨p4, hp4, rfl⟩, hnx4⟩
     try simp only [] at hnx4
     clear hold2
     refine AOPS.nil ?_
     refine AAny.step [3] (by kernel_rfl) (by simp) ?_
     intro i hi o ho
     simp only [List.mem_cons, List.not_mem_nil, or_false] at hi
     subst hi
     ·simp only [List.getElem?_toArray, List.getElem?_cons_zero, List.getElem?_cons_succ, Option.some.injEq] at ho
      subst ho
      refine .e ?_
      refine AAny.step [4] (by kernel_rfl) (by simp) ?_
      intro i hi o ho
      simp only [List.mem_cons, List.not_mem_nil, or_false] at hi
      subst hi
      ·simp only [List.getElem?_toArray, List.getElem?_cons_zero, List.getElem?_cons_succ, Option.some.injEq] at ho
       subst ho
       refine AOPS.old fun hold4 => ?_
       refine .a (off_ac l p4 id _ _ dl hl hp4 (by simp (disch := omega) [hH]) hold4) hb129 ?_
       rintro _ _ nx5 ⟨⟨kb, rfl, kbi⟩, ⟨p5, hp5, rfl⟩, hnx5⟩
       try simp only [] at hnx5
       clear hold4
       refine AOPS.nil ?_
       refine AAny.step [5, 6] (by kernel_rfl) (by simp) ?_
       intro i hi o ho
       simp only [List.mem_cons, List.not_mem_nil, or_false] at hi
       rcases hi with rfl | rfl
       ·simp only [List.getElem?_toArray, List.getElem?_cons_zero, List.getElem?_cons_succ, Option.some.injEq] at ho
        subst ho
        refine .e ?_
        refine AAny.step [6] (by kernel_rfl) (by simp) ?_
        intro i hi o ho
        simp only [List.mem_cons, List.not_mem_nil, or_false] at hi
        subst hi
        ·simp only [List.getElem?_toArray, List.getElem?_cons_zero, List.getElem?_cons_succ, Option.some.injEq] at ho
         subst ho
         refine .e ?_
         refine AAny.step [7] (by kernel_rfl) (by simp) ?_
         intro i hi o ho
         simp only [List.mem_cons, List.not_mem_nil, or_false] at hi
         subst hi
         ·simp only [List.getElem?_toArray, List.getElem?_cons_zero, List.getElem?_cons_succ, Option.some.injEq] at ho
          subst ho
          refine .e ?_
          refine AAny.done (by kernel_rfl) ?_
          refine hK6 _ ?_
          refine .ret ?_
          exact hK _ _ _ _ _ trivial ((Fin.mk (r := .tup [.agg [.int .i64 (S).a.x, .int .i64 (S).a.y, .int .i64 (S).b.x, .int .i64 (S).b.y], .agg [.int .i64 ((⟨ka, kb⟩ : Sp)).x, .int .i64 ((⟨ka, kb⟩ : Sp)).y]]) (by simp (disch := omega) [aRes, aResL, aRes1])).restr (fun i => decide (i < nx))) (⟨⟨S, ⟨ka, kb⟩, So, ⟨kai, kbi⟩, rfl⟩, by simp (disch := first | omega | (simp; done) | (simp; omega)) [hrestr_in, hrestr_out, hrestr_all hd, hupd_same], by first | omega | (simp at *; omega)⟩)
       ·simp only [List.getElem?_toArray, List.getElem?_cons_zero, List.getElem?_cons_succ, Option.some.injEq] at ho
        subst ho
        refine .e ?_
        refine AAny.step [5] (by kernel_rfl) (by simp) ?_
        intro i hi o ho
        simp only [List.mem_cons, List.not_mem_nil, or_false] at hi
        subst hi
        ·simp only [List.getElem?_toArray, List.getElem?_cons_zero, List.getElem?_cons_succ, Option.some.injEq] at ho
         subst ho
         refine .e ?_
         refine AAny.step [7] (by kernel_rfl) (by simp) ?_
         intro i hi o ho
         simp only [List.mem_cons, List.not_mem_nil, or_false] at hi
         subst hi
         ·simp only [List.getElem?_toArray, List.getElem?_cons_zero, List.getElem?_cons_succ, Option.some.injEq] at ho
          subst ho
          refine .e ?_
          refine AAny.done (by kernel_rfl) ?_
          refine hK6 _ ?_
          refine .ret ?_
          exact hK _ _ _ _ _ trivial ((Fin.mk (r := .tup [.agg [.int .i64 (S).a.x, .int .i64 (S).a.y, .int .i64 (S).b.x, .int .i64 (S).b.y], .agg [.int .i64 ((⟨ka, kb⟩ : Sp)).x, .int .i64 ((⟨ka, kb⟩ : Sp)).y]]) (by simp (disch := omega) [aRes, aResL, aRes1])).restr (fun i => decide (i < nx))) (⟨⟨S, ⟨ka, kb⟩, So, ⟨kai, kbi⟩, rfl⟩, by simp (disch := first | omega | (simp; done) | (simp; omega)) [hrestr_in, hrestr_out, hrestr_all hd, hupd_same], by first | omega | (simp at *; omega)⟩)
    ·simp only [List.getElem?_toArray, List.getElem?_cons_zero, List.getElem?_cons_succ, Option.some.injEq] at ho
     subst ho
     refine .e ?_
     refine AAny.step [2] (by kernel_rfl) (by simp) ?_
     intro i hi o ho
     simp only [List.mem_cons, List.not_mem_nil, or_false] at hi
     subst hi
     ·simp only [List.getElem?_toArray, List.getElem?_cons_zero, List.getElem?_cons_succ, Option.some.injEq] at ho
      subst ho
      refine AOPS.old fun hold2 => ?_
      refine .a (off_ac l p3 id _ _ dl hl hp3 (by simp (disch := omega) [hH]) hold2) hb129 ?_
      rintro _ _ nx4 ⟨⟨ka, rfl, kai⟩, ⟨p4, hp4, rfl⟩, hnx4⟩
      try simp only [] at hnx4
      clear hold2
      refine AOPS.nil ?_
      refine AAny.step [4] (by kernel_rfl) (by simp) ?_
      intro i hi o ho
      simp only [List.mem_cons, List.not_mem_nil, or_false] at hi
      subst hi
      ·simp only [List.getElem?_toArray, List.getElem?_cons_zero, List.getElem?_cons_succ, Option.some.injEq] at ho
       subst ho
       refine AOPS.old fun hold4 => ?_
       refine .a (off_ac l p4 id _ _ dl hl hp4 (by simp (disch := omega) [hH]) hold4) hb129 ?_
       rintro _ _ nx5 ⟨⟨kb, rfl, kbi⟩, ⟨p5, hp5, rfl⟩, hnx5⟩
       try simp only [] at hnx5
       clear hold4
       refine AOPS.nil ?_
       refine AAny.step [5, 6] (by kernel_rfl) (by simp) ?_
       intro i hi o ho
       simp only [List.mem_cons, List.not_mem_nil, or_false] at hi
       rcases hi with rfl | rfl
       ·simp only [List.getElem?_toArray, List.getElem?_cons_zero, List.getElem?_cons_succ, Option.some.injEq] at ho
        subst ho
        refine .e ?_
        refine AAny.step [6] (by kernel_rfl) (by simp) ?_
        intro i hi o ho
        simp only [List.mem_cons, List.not_mem_nil, or_false] at hi
        subst hi
        ·simp only [List.getElem?_toArray, List.getElem?_cons_zero, List.getElem?_cons_succ, Option.some.injEq] at ho
         subst ho
         refine .e ?_
         refine AAny.step [7] (by kernel_rfl) (by simp) ?_
         intro i hi o ho
         simp only [List.mem_cons, List.not_mem_nil, or_false] at hi
         subst hi
         ·simp only [List.getElem?_toArray, List.getElem?_cons_zero, List.getElem?_cons_succ, Option.some.injEq] at ho
          subst ho
          refine .e ?_
          refine AAny.done (by kernel_rfl) ?_
          refine hK6 _ ?_
          refine .ret ?_
          exact hK _ _ _ _ _ trivial ((Fin.mk (r := .tup [.agg [.int .i64 (S).a.x, .int .i64 (S).a.y, .int .i64 (S).b.x, .int .i64 (S).b.y], .agg [.int .i64 ((⟨ka, kb⟩ : Sp)).x, .int .i64 ((⟨ka, kb⟩ : Sp)).y]]) (by simp (disch := omega) [aRes, aResL, aRes1])).restr (fun i => decide (i < nx))) (⟨⟨S, ⟨ka, kb⟩, So, ⟨kai, kbi⟩, rfl⟩, by simp (disch := first | omega | (simp; done) | (simp; omega)) [hrestr_in, hrestr_out, hrestr_all hd, hupd_same], by first | omega | (simp at *; omega)⟩)
       ·simp only [List.getElem?_toArray, List.getElem?_cons_zero, List.getElem?_cons_succ, Option.some.injEq] at ho
        subst ho
        refine .e ?_
        refine AAny.step [5] (by kernel_rfl) (by simp) ?_
        intro i hi o ho
        simp only [List.mem_cons, List.not_mem_nil, or_false] at hi
        subst hi
        ·simp only [List.getElem?_toArray, List.getElem?_cons_zero, List.getElem?_cons_succ, Option.some.injEq] at ho
         subst ho
         refine .e ?_
         refine AAny.step [7] (by kernel_rfl) (by simp) ?_
         intro i hi o ho
         simp only [List.mem_cons, List.not_mem_nil, or_false] at hi
         subst hi
         ·simp only [List.getElem?_toArray, List.getElem?_cons_zero, List.getElem?_cons_succ, Option.some.injEq] at ho
          subst ho
          refine .e ?_
          refine AAny.done (by kernel_rfl) ?_
          refine hK6 _ ?_
          refine .ret ?_
          exact hK _ _ _ _ _ trivial ((Fin.mk (r := .tup [.agg [.int .i64 (S).a.x, .int .i64 (S).a.y, .int .i64 (S).b.x, .int .i64 (S).b.y], .agg [.int .i64 ((⟨ka, kb⟩ : Sp)).x, .int .i64 ((⟨ka, kb⟩ : Sp)).y]]) (by simp (disch := omega) [aRes, aResL, aRes1])).restr (fun i => decide (i < nx))) (⟨⟨S, ⟨ka, kb⟩, So, ⟨kai, kbi⟩, rfl⟩, by simp (disch := first | omega | (simp; done) | (simp; omega)) [hrestr_in, hrestr_out, hrestr_all hd, hupd_same], by first | omega | (simp at *; omega)⟩)
   ·simp only [List.getElem?_toArray, List.getElem?_cons_zero, List.getElem?_cons_succ, Option.some.injEq] at ho
    subst ho
    refine .e ?_
    refine AAny.step [1] (by kernel_rfl) (by simp) ?_
    intro i hi o ho
    simp only [List.mem_cons, List.not_mem_nil, or_false] at hi
    subst hi
    ·simp only [List.getElem?_toArray, List.getElem?_cons_zero, List.getElem?_cons_succ, Option.some.injEq] at ho
     subst ho
     refine .e ?_
     refine AAny.step [2] (by kernel_rfl) (by simp) ?_
     intro i hi o ho
     simp only [List.mem_cons, List.not_mem_nil, or_false] at hi
     subst hi
     ·simp only [List.getElem?_toArray, List.getElem?_cons_zero, List.getElem?_cons_succ, Option.some.injEq] at ho
      subst ho
      refine AOPS.old fun hold2 => ?_
      refine .a (off_ac l p3 id _ _ dl hl hp3 (by simp (disch := omega) [hH]) hold2) hb129 ?_
      rintro _ _ nx4 ⟨⟨ka, rfl, kai⟩, ⟨p4, hp4, rfl⟩, hnx4⟩
      try simp only [] at hnx4
      clear hold2
      refine AOPS.nil ?_
      refine AAny.step [4] (by kernel_rfl) (by simp) ?_
      intro i hi o ho
      simp only [List.mem_cons, List.not_mem_nil, or_false] at hi
      subst hi
      ·simp only [List.getElem?_toArray, List.getElem?_cons_zero, List.getElem?_cons_succ, Option.some.injEq] at ho
       subst ho
       refine AOPS.old fun hold4 => ?_
       refine .a (off_ac l p4 id _ _ dl hl hp4 (by simp (disch := omega) [hH]) hold4) hb129 ?_
       rintro _ _ nx5 ⟨⟨kb, rfl, kbi⟩, ⟨p5, hp5, rfl⟩, hnx5⟩
       try simp only [] at hnx5
       clear hold4
       refine AOPS.nil ?_
       refine AAny.step [5, 6] (by kernel_rfl) (by simp) ?_
       intro i hi o ho
       simp only [List.mem_cons, List.not_mem_nil, or_false] at hi
       rcases hi with rfl | rfl
       ·simp only [List.getElem?_toArray, List.getElem?_cons_zero, List.getElem?_cons_succ, Option.some.injEq] at ho
        subst ho
        refine .e ?_
        refine AAny.step [6] (by kernel_rfl) (by simp) ?_
        intro i hi o ho
        simp only [List.mem_cons, List.not_mem_nil, or_false] at hi
        subst hi
        ·simp only [List.getElem?_toArray, List.getElem?_cons_zero, List.getElem?_cons_succ, Option.some.injEq] at ho
         subst ho
         refine .e ?_
         refine AAny.step [7] (by kernel_rfl) (by simp) ?_
         intro i hi o ho
         simp only [List.mem_cons, List.not_mem_nil, or_false] at hi
         subst hi
         ·simp only [List.getElem?_toArray, List.getElem?_cons_zero, List.getElem?_cons_succ, Option.some.injEq] at ho
          subst ho
          refine .e ?_
          refine AAny.done (by kernel_rfl) ?_
          refine hK6 _ ?_
          refine .ret ?_
          exact hK _ _ _ _ _ trivial ((Fin.mk (r := .tup [.agg [.int .i64 (S).a.x, .int .i64 (S).a.y, .int .i64 (S).b.x, .int .i64 (S).b.y], .agg [.int .i64 ((⟨ka, kb⟩ : Sp)).x, .int .i64 ((⟨ka, kb⟩ : Sp)).y]]) (by simp (disch := omega) [aRes, aResL, aRes1])).restr (fun i => decide (i < nx))) (⟨⟨S, ⟨ka, kb⟩, So, ⟨kai, kbi⟩, rfl⟩, by simp (disch := first | omega | (simp; done) | (simp; omega)) [hrestr_in, hrestr_out, hrestr_all hd, hupd_same], by first | omega | (simp at *; omega)⟩)
       ·simp only [List.getElem?_toArray, List.getElem?_cons_zero, List.getElem?_cons_succ, Option.some.injEq] at ho
        subst ho
        refine .e ?_
        refine AAny.step [5] (by kernel_rfl) (by simp) ?_
        intro i hi o ho
        simp only [List.mem_cons, List.not_mem_nil, or_false] at hi
        subst hi
        ·simp only [List.getElem?_toArray, List.getElem?_cons_zero, List.getElem?_cons_succ, Option.some.injEq] at ho
         subst ho
         refine .e ?_
         refine AAny.step [7] (by kernel_rfl) (by simp) ?_
         intro i hi o ho
         simp only [List.mem_cons, List.not_mem_nil, or_false] at hi
         subst hi
         ·simp only [List.getElem?_toArray, List.getElem?_cons_zero, List.getElem?_cons_succ, Option.some.injEq] at ho
          subst ho
          refine .e ?_
          refine AAny.done (by kernel_rfl) ?_
          refine hK6 _ ?_
          refine .ret ?_
          exact hK _ _ _ _ _ trivial ((Fin.mk (r := .tup [.agg [.int .i64 (S).a.x, .int .i64 (S).a.y, .int .i64 (S).b.x, .int .i64 (S).b.y], .agg [.int .i64 ((⟨ka, kb⟩ : Sp)).x, .int .i64 ((⟨ka, kb⟩ : Sp)).y]]) (by simp (disch := omega) [aRes, aResL, aRes1])).restr (fun i => decide (i < nx))) (⟨⟨S, ⟨ka, kb⟩, So, ⟨kai, kbi⟩, rfl⟩, by simp (disch := first | omega | (simp; done) | (simp; omega)) [hrestr_in, hrestr_out, hrestr_all hd, hupd_same], by first | omega | (simp at *; omega)⟩)
  ·simp only [List.getElem?_toArray, List.getElem?_cons_zero, List.getElem?_cons_succ, Option.some.injEq] at ho
   subst ho
   refine .e ?_
   refine AAny.step [0, 2, 3] (by kernel_rfl) (by simp) ?_
   intro i hi o ho
   simp only [List.mem_cons, List.not_mem_nil, or_false] at hi
   rcases hi with rfl | rfl | rfl
   ·simp only [List.getElem?_toArray, List.getElem?_cons_zero, List.getElem?_cons_succ, Option.some.injEq] at ho
    subst ho
    refine .e ?_
    refine AAny.step [2, 3] (by kernel_rfl) (by simp) ?_
    intro i hi o ho
    simp only [List.mem_cons, List.not_mem_nil, or_false] at hi
    rcases hi with rfl | rfl
    ·simp only [List.getElem?_toArray, List.getElem?_cons_zero, List.getElem?_cons_succ, Option.some.injEq] at ho
     subst ho
     refine AOPS.old fun hold2 => ?_
     refine .a (off_ac l p3 id _ _ dl hl hp3 (by simp (disch := omega) [hH]) hold2) hb129 ?_
     rintro _ _ nx4 ⟨⟨ka, rfl, kai⟩, ⟨p4, hp4, rfl⟩, hnx4⟩
     try simp only [] at hnx4
     clear hold2
     refine AOPS.nil ?_
     refine AAny.step [3] (by kernel_rfl) (by simp) ?_
     intro i hi o ho
     simp only [List.mem_cons, List.not_mem_nil, or_false] at hi
     subst hi
     ·simp only [List.getElem?_toArray, List.getElem?_cons_zero, List.getElem?_cons_succ, Option.some.injEq] at ho
      subst ho
      refine .e ?_
      refine AAny.step [4] (by kernel_rfl) (by simp) ?_
      intro i hi o ho
      simp only [List.mem_cons, List.not_mem_nil, or_false] at hi
      subst hi
      ·simp only [List.getElem?_toArray, List.getElem?_cons_zero, List.getElem?_cons_succ, Option.some.injEq] at ho
       subst ho
       refine AOPS.old fun hold4 => ?_
       refine .a (off_ac l p4 id _ _ dl hl hp4 (by simp (disch := omega) [hH]) hold4) hb129 ?_
       rintro _ _ nx5 ⟨⟨kb, rfl, kbi⟩, ⟨p5, hp5, rfl⟩, hnx5⟩
       try simp only [] at hnx5
       clear hold4
       refine AOPS.nil ?_
       refine AAny.step [5, 6] (by kernel_rfl) (by simp) ?_
       intro i hi o ho
       simp only [List.mem_cons, List.not_mem_nil, or_false] at hi
       rcases hi with rfl | rfl
       ·simp only [List.getElem?_toArray, List.getElem?_cons_zero, List.getElem?_cons_succ, Option.some.injEq] at ho
        subst ho
        refine .e ?_
        refine AAny.step [6] (by kernel_rfl) (by simp) ?_
        intro i hi o ho
        simp only [List.mem_cons, List.not_mem_nil, or_false] at hi
        subst hi
        ·simp only [List.getElem?_toArray, List.getElem?_cons_zero, List.getElem?_cons_succ, Option.some.injEq] at ho
         subst ho
         refine .e ?_
         refine AAny.step [7] (by kernel_rfl) (by simp) ?_
         intro i hi o ho
         simp only [List.mem_cons, List.not_mem_nil, or_false] at hi
         subst hi
         ·simp only [List.getElem?_toArray, List.getElem?_cons_zero, List.getElem?_cons_succ, Option.some.injEq] at ho
          subst ho
          refine .e ?_
          refine AAny.done (by kernel_rfl) ?_
          refine hK6 _ ?_
          refine .ret ?_
          exact hK _ _ _ _ _ trivial ((Fin.mk (r := .tup [.agg [.int .i64 (S).a.x, .int .i64 (S).a.y, .int .i64 (S).b.x, .int .i64 (S).b.y], .agg [.int .i64 ((⟨ka, kb⟩ : Sp)).x, .int .i64 ((⟨ka, kb⟩ : Sp)).y]]) (by simp (disch := omega) [aRes, aResL, aRes1])).restr (fun i => decide (i < nx))) (⟨⟨S, ⟨ka, kb⟩, So, ⟨kai, kbi⟩, rfl⟩, by simp (disch := first | omega | (simp; done) | (simp; omega)) [hrestr_in, hrestr_out, hrestr_all hd, hupd_same], by first | omega | (simp at *; omega)⟩)
       ·simp only [List.getElem?_toArray, List.getElem?_cons_zero, List.getElem?_cons_succ, Option.some.injEq] at ho
        subst ho
        refine .e ?_
        refine AAny.step [5] (by kernel_rfl) (by simp) ?_
        intro i hi o ho
        simp only [List.mem_cons, List.not_mem_nil, or_false] at hi
        subst hi
        ·simp only [List.getElem?_toArray, List.getElem?_cons_zero, List.getElem?_cons_succ, Option.some.injEq] at ho
         subst ho
         refine .e ?_
         refine AAny.step [7] (by kernel_rfl) (by simp) ?_
         intro i hi o ho
         simp only [List.mem_cons, List.not_mem_nil, or_false] at hi
         subst hi
         ·simp only [List.getElem?_toArray, List.getElem?_cons_zero, List.getElem?_cons_succ, Option.some.injEq] at ho
          subst ho
          refine .e ?_
          refine AAny.done (by kernel_rfl) ?_
          refine hK6 _ ?_
          refine .ret ?_
          exact hK _ _ _ _ _ trivial ((Fin.mk (r := .tup [.agg [.int .i64 (S).a.x, .int .i64 (S).a.y, .int .i64 (S).b.x, .int .i64 (S).b.y], .agg [.int .i64 ((⟨ka, kb⟩ : Sp)).x, .int .i64 ((⟨ka, kb⟩ : Sp)).y]]) (by simp (disch := omega) [aRes, aResL, aRes1])).restr (fun i => decide (i < nx))) (⟨⟨S, ⟨ka, kb⟩, So, ⟨kai, kbi⟩, rfl⟩, by simp (disch := first | omega | (simp; done) | (simp; omega)) [hrestr_in, hrestr_out, hrestr_all hd, hupd_same], by first | omega | (simp at *; omega)⟩)
    ·simp only [List.getElem?_toArray, List.getElem?_cons_zero, List.getElem?_cons_succ, Option.some.injEq] at ho
     subst ho
     refine .e ?_
     refine AAny.step [2] (by kernel_rfl) (by simp) ?_
     intro i hi o ho
     simp only [List.mem_cons, List.not_mem_nil, or_false] at hi
     subst hi
     ·simp only [List.getElem?_toArray, List.getElem?_cons_zero, List.getElem?_cons_succ, Option.some.injEq] at ho
      subst ho
      refine AOPS.old fun hold2 => ?_
      refine .a (off_ac l p3 id _ _ dl hl hp3 (by simp (disch := omega) [hH]) hold2) hb129 ?_
      rintro _ _ nx4 ⟨⟨ka, rfl, kai⟩, ⟨p4, hp4, rfl⟩, hnx4⟩
      try simp only [] at hnx4
      clear hold2
      refine AOPS.nil ?_
      refine AAny.step [4] (by kernel_rfl) (by simp) ?_
      intro i hi o ho
      simp only [List.mem_cons, List.not_mem_nil, or_false] at hi
      subst hi
      ·simp only [List.getElem?_toArray, List.getElem?_cons_zero, List.getElem?_cons_succ, Option.some.injEq] at ho
       subst ho
       refine AOPS.old fun hold4 => ?_
       refine .a (off_ac l p4 id _ _ dl hl hp4 (by simp (disch := omega) [hH]) hold4) hb129 ?_
       rintro _ _ nx5 ⟨⟨kb, rfl, kbi⟩, ⟨p5, hp5, rfl⟩, hnx5⟩
       try simp only [] at hnx5
       clear hold4
       refine AOPS.nil ?_
       refine AAny.step [5, 6] (by kernel_rfl) (by simp) ?_
       intro i hi o ho
       simp only [List.mem_cons, List.not_mem_nil, or_false] at hi
       rcases hi with rfl | rfl
       ·simp only [List.getElem?_toArray, List.getElem?_cons_zero, List.getElem?_cons_succ, Option.some.injEq] at ho
        subst ho
        refine .e ?_
        refine AAny.step [6] (by kernel_rfl) (by simp) ?_
        intro i hi o ho
        simp only [List.mem_cons, List.not_mem_nil, or_false] at hi
        subst hi
        ·simp only [List.getElem?_toArray, List.getElem?_cons_zero, List.getElem?_cons_succ, Option.some.injEq] at ho
         subst ho
         refine .e ?_
         refine AAny.step [7] (by kernel_rfl) (by simp) ?_
         intro i hi o ho
         simp only [List.mem_cons, List.not_mem_nil, or_false] at hi
         subst hi
         ·simp only [List.getElem?_toArray, List.getElem?_cons_zero, List.getElem?_cons_succ, Option.some.injEq] at ho
          subst ho
          refine .e ?_
          refine AAny.done (by kernel_rfl) ?_
          refine hK6 _ ?_
          refine .ret ?_
          exact hK _ _ _ _ _ trivial ((Fin.mk (r := .tup [.agg [.int .i64 (S).a.x, .int .i64 (S).a.y, .int .i64 (S).b.x, .int .i64 (S).b.y], .agg [.int .i64 ((⟨ka, kb⟩ : Sp)).x, .int .i64 ((⟨ka, kb⟩ : Sp)).y]]) (by simp (disch := omega) [aRes, aResL, aRes1])).restr (fun i => decide (i < nx))) (⟨⟨S, ⟨ka, kb⟩, So, ⟨kai, kbi⟩, rfl⟩, by simp (disch := first | omega | (simp; done) | (simp; omega)) [hrestr_in, hrestr_out, hrestr_all hd, hupd_same], by first | omega | (simp at *; omega)⟩)
       ·simp only [List.getElem?_toArray, List.getElem?_cons_zero, List.getElem?_cons_succ, Option.some.injEq] at ho
        subst ho
        refine .e ?_
        refine AAny.step [5] (by kernel_rfl) (by simp) ?_
        intro i hi o ho
        simp only [List.mem_cons, List.not_mem_nil, or_false] at hi
        subst hi
        ·simp only [List.getElem?_toArray, List.getElem?_cons_zero, List.getElem?_cons_succ, Option.some.injEq] at ho
         subst ho
         refine .e ?_
         refine AAny.step [7] (by kernel_rfl) (by simp) ?_
         intro i hi o ho
         simp only [List.mem_cons, List.not_mem_nil, or_false] at hi
         subst hi
         ·simp only [List.getElem?_toArray, List.getElem?_cons_zero, List.getElem?_cons_succ, Option.some.injEq] at ho
          subst ho
          refine .e ?_
          refine AAny.done (by kernel_rfl) ?_
          refine hK6 _ ?_
          refine .ret ?_
          exact hK _ _ _ _ _ trivial ((Fin.mk (r := .tup [.agg [.int .i64 (S).a.x, .int .i64 (S).a.y, .int .i64 (S).b.x, .int .i64 (S).b.y], .agg [.int .i64 ((⟨ka, kb⟩ : Sp)).x, .int .i64 ((⟨ka, kb⟩ : Sp)).y]]) (by simp (disch := omega) [aRes, aResL, aRes1])).restr (fun i => decide (i < nx))) (⟨⟨S, ⟨ka, kb⟩, So, ⟨kai, kbi⟩, rfl⟩, by simp (disch := first | omega | (simp; done) | (simp; omega)) [hrestr_in, hrestr_out, hrestr_all hd, hupd_same], by first | omega | (simp at *; omega)⟩)
   ·simp only [List.getElem?_toArray, List.getElem?_cons_zero, List.getElem?_cons_succ, Option.some.injEq] at ho
    subst ho
    refine AOPS.old fun hold2 => ?_
    refine .a (off_ac l p3 id _ _ dl hl hp3 (by simp (disch := omega) [hH]) hold2) hb129 ?_
    rintro _ _ nx4 ⟨⟨ka, rfl, kai⟩, ⟨p4, hp4, rfl⟩, hnx4⟩
    try simp only [] at hnx4
    clear hold2
    refine AOPS.nil ?_
    refine AAny.step [0, 3] (by kernel_rfl) (by simp) ?_
    intro i hi o ho
    simp only [List.mem_cons, List.not_mem_nil, or_false] at hi
    rcases hi with rfl | rfl
    ·simp only [List.getElem?_toArray, List.getElem?_cons_zero, List.getElem?_cons_succ, Option.some.injEq] at ho
     subst ho
     refine .e ?_
     refine AAny.step [3] (by kernel_rfl) (by simp) ?_
     intro i hi o ho
     simp only [List.mem_cons, List.not_mem_nil, or_false] at hi
     subst hi
     ·simp only [List.getElem?_toArray, List.getElem?_cons_zero, List.getElem?_cons_succ, Option.some.injEq] at ho
      subst ho
      refine .e ?_
      refine AAny.step [4] (by kernel_rfl) (by simp) ?_
      intro i hi o ho
      simp only [List.mem_cons, List.not_mem_nil, or_false] at hi
      subst hi
      ·simp only [List.getElem?_toArray, List.getElem?_cons_zero, List.getElem?_cons_succ, Option.some.injEq] at ho
       subst ho
       refine AOPS.old fun hold4 => ?_
       refine .a (off_ac l p4 id _ _ dl hl hp4 (by simp (disch := omega) [hH]) hold4) hb129 ?_
       rintro _ _ nx5 ⟨⟨kb, rfl, kbi⟩, ⟨p5, hp5, rfl⟩, hnx5⟩
       try simp only [] at hnx5
       clear hold4
       refine AOPS.nil ?_
       refine AAny.step [5, 6] (by kernel_rfl) (by simp) ?_
       intro i hi o ho
       simp only [List.mem_cons, List.not_mem_nil, or_false] at hi
       rcases hi with rfl | rfl
       ·simp only [List.getElem?_toArray, List.getElem?_cons_zero, List.getElem?_cons_succ, Option.some.injEq] at ho
        subst ho
        refine .e ?_
        refine AAny.step [6] (by kernel_rfl) (by simp) ?_
        intro i hi o ho
        simp only [List.mem_cons, List.not_mem_nil, or_false] at hi
        subst hi
        ·simp only [List.getElem?_toArray, List.getElem?_cons_zero, List.getElem?_cons_succ, Option.some.injEq] at ho
         subst ho
         refine .e ?_
         refine AAny.step [7] (by kernel_rfl) (by simp) ?_
         intro i hi o ho
         simp only [List.mem_cons, List.not_mem_nil, or_false] at hi
         subst hi
         ·simp only [List.getElem?_toArray, List.getElem?_cons_zero, List.getElem?_cons_succ, Option.some.injEq] at ho
          subst ho
          refine .e ?_
          refine AAny.done (by kernel_rfl) ?_
          refine hK6 _ ?_
          refine .ret ?_
          exact hK _ _ _ _ _ trivial ((Fin.mk (r := .tup [.agg [.int .i64 (S).a.x, .int .i64 (S).a.y, .int .i64 (S).b.x, .int .i64 (S).b.y], .agg [.int .i64 ((⟨ka, kb⟩ : Sp)).x, .int .i64 ((⟨ka, kb⟩ : Sp)).y]]) (by simp (disch := omega) [aRes, aResL, aRes1])).restr (fun i => decide (i < nx))) (⟨⟨S, ⟨ka, kb⟩, So, ⟨kai, kbi⟩, rfl⟩, by simp (disch := first | omega | (simp; done) | (simp; omega)) [hrestr_in, hrestr_out, hrestr_all hd, hupd_same], by first | omega | (simp at *; omega)⟩)
       ·simp only [List.getElem?_toArray, List.getElem?_cons_zero, List.getElem?_cons_succ, Option.some.injEq] at ho
        subst ho
        refine .e ?_
        refine AAny.step [5] (by kernel_rfl) (by simp) ?_
        intro i hi o ho
        simp only [List.mem_cons, List.not_mem_nil, or_false] at hi
        subst hi
        ·simp only [List.getElem?_toArray, List.getElem?_cons_zero, List.getElem?_cons_succ, Option.some.injEq] at ho
         subst ho
         refine .e ?_
         refine AAny.step [7] (by kernel_rfl) (by simp) ?_
         intro i hi o ho
         simp only [List.mem_cons, List.not_mem_nil, or_false] at hi
         subst hi
         ·simp only [List.getElem?_toArray, List.getElem?_cons_zero, List.getElem?_cons_succ, Option.some.injEq] at ho
          subst ho
          refine .e ?_
          refine AAny.done (by kernel_rfl) ?_
          refine hK6 _ ?_
          refine .ret ?_
          exact hK _ _ _ _ _ trivial ((Fin.mk (r := .tup [.agg [.int .i64 (S).a.x, .int .i64 (S).a.y, .int .i64 (S).b.x, .int .i64 (S).b.y], .agg [.int .i64 ((⟨ka, kb⟩ : Sp)).x, .int .i64 ((⟨ka, kb⟩ : Sp)).y]]) (by simp (disch := omega) [aRes, aResL, aRes1])).restr (fun i => decide (i < nx))) (⟨⟨S, ⟨ka, kb⟩, So, ⟨kai, kbi⟩, rfl⟩, by simp (disch := first | omega | (simp; done) | (simp; omega)) [hrestr_in, hrestr_out, hrestr_all hd, hupd_same], by first | omega | (simp at *; omega)⟩)
    ·simp only [List.getElem?_toArray, List.getElem?_cons_zero, List.getElem?_cons_succ, Option.some.injEq] at ho
     subst ho
     refine .e ?_
     refine AAny.step [0, 4] (by kernel_rfl) (by simp) ?_
     intro i hi o ho
     simp only [List.mem_cons, List.not_mem_nil, or_false] at hi
     rcases hi with rfl | rfl
     ·simp only [List.getElem?_toArray, List.getElem?_cons_zero, List.getElem?_cons_succ, Option.some.injEq] at ho
      subst ho
      refine .e ?_
      refine AAny.step [4] (by kernel_rfl) (by simp) ?_
      intro i hi o ho
      simp only [List.mem_cons, List.not_mem_nil, or_false] at hi
      subst hi
      ·simp only [List.getElem?_toArray, List.getElem?_cons_zero, List.getElem?_cons_succ, Option.some.injEq] at ho
       subst ho
       refine AOPS.old fun hold4 => ?_
       refine .a (off_ac l p4 id _ _ dl hl hp4 (by simp (disch := omega) [hH]) hold4) hb129 ?_
       rintro _ _ nx5 ⟨⟨kb, rfl, kbi⟩, ⟨p5, hp5, rfl⟩, hnx5⟩
       try simp only [] at hnx5
       clear hold4
       refine AOPS.nil ?_
       refine AAny.step [5, 6] (by kernel_rfl) (by simp) ?_
       intro i hi o ho
       simp only [List.mem_cons, List.not_mem_nil, or_false] at hi
       rcases hi with rfl | rfl
       ·simp only [List.getElem?_toArray, List.getElem?_cons_zero, List.getElem?_cons_succ, Option.some.injEq] at ho
        subst ho
        refine .e ?_
        refine AAny.step [6] (by kernel_rfl) (by simp) ?_
        intro i hi o ho
        simp only [List.mem_cons, List.not_mem_nil, or_false] at hi
        subst hi
        ·simp only [List.getElem?_toArray, List.getElem?_cons_zero, List.getElem?_cons_succ, Option.some.injEq] at ho
         subst ho
         refine .e ?_
         refine AAny.step [7] (by kernel_rfl) (by simp) ?_
         intro i hi o ho
         simp only [List.mem_cons, List.not_mem_nil, or_false] at hi
         subst hi
         ·simp only [List.getElem?_toArray, List.getElem?_cons_zero, List.getElem?_cons_succ, Option.some.injEq] at ho
          subst ho
          refine .e ?_
          refine AAny.done (by kernel_rfl) ?_
          refine hK6 _ ?_
          refine .ret ?_
          exact hK _ _ _ _ _ trivial ((Fin.mk (r := .tup [.agg [.int .i64 (S).a.x, .int .i64 (S).a.y, .int .i64 (S).b.x, .int .i64 (S).b.y], .agg [.int .i64 ((⟨ka, kb⟩ : Sp)).x, .int .i64 ((⟨ka, kb⟩ : Sp)).y]]) (by simp (disch := omega) [aRes, aResL, aRes1])).restr (fun i => decide (i < nx))) (⟨⟨S, ⟨ka, kb⟩, So, ⟨kai, kbi⟩, rfl⟩, by simp (disch := first | omega | (simp; done) | (simp; omega)) [hrestr_in, hrestr_out, hrestr_all hd, hupd_same], by first | omega | (simp at *; omega)⟩)
       ·simp only [List.getElem?_toArray, List.getElem?_cons_zero, List.getElem?_cons_succ, Option.some.injEq] at ho
        subst ho
        refine .e ?_
        refine AAny.step [5] (by kernel_rfl) (by simp) ?_
        intro i hi o ho
        simp only [List.mem_cons, List.not_mem_nil, or_false] at hi
        subst hi
        ·simp only [List.getElem?_toArray, List.getElem?_cons_zero, List.getElem?_cons_succ, Option.some.injEq] at ho
         subst ho
         refine .e ?_
         refine AAny.step [7] (by kernel_rfl) (by simp) ?_
         intro i hi o ho
         simp only [List.mem_cons, List.not_mem_nil, or_false] at hi
         subst hi
         ·simp only [List.getElem?_toArray, List.getElem?_cons_zero, List.getElem?_cons_succ, Option.some.injEq] at ho
          subst ho
          refine .e ?_
          refine AAny.done (by kernel_rfl) ?_
          refine hK6 _ ?_
          refine .ret ?_
          exact hK _ _ _ _ _ trivial ((Fin.mk (r := .tup [.agg [.int .i64 (S).a.x, .int .i64 (S).a.y, .int .i64 (S).b.x, .int .i64 (S).b.y], .agg [.int .i64 ((⟨ka, kb⟩ : Sp)).x, .int .i64 ((⟨ka, kb⟩ : Sp)).y]]) (by simp (disch := omega) [aRes, aResL, aRes1])).restr (fun i => decide (i < nx))) (⟨⟨S, ⟨ka, kb⟩, So, ⟨kai, kbi⟩, rfl⟩, by simp (disch := first | omega | (simp; done) | (simp; omega)) [hrestr_in, hrestr_out, hrestr_all hd, hupd_same], by first | omega | (simp at *; omega)⟩)
     ·simp only [List.getElem?_toArray, List.getElem?_cons_zero, List.getElem?_cons_succ, Option.some.injEq] at ho
      subst ho
      refine AOPS.old fun hold4 => ?_
      refine .a (off_ac l p4 id _ _ dl hl hp4 (by simp (disch := omega) [hH]) hold4) hb129 ?_
      rintro _ _ nx5 ⟨⟨kb, rfl, kbi⟩, ⟨p5, hp5, rfl⟩, hnx5⟩
      try simp only [] at hnx5
      clear hold4
      refine AOPS.nil ?_
      refine AAny.step [0, 5] (by kernel_rfl) (by simp) ?_
      intro i hi o ho
      simp only [List.mem_cons, List.not_mem_nil, or_false] at hi
      rcases hi with rfl | rfl
      ·simp only [List.getElem?_toArray, List.getElem?_cons_zero, List.getElem?_cons_succ, Option.some.injEq] at ho
       subst ho
       refine .e ?_
       refine AAny.step [5, 6] (by kernel_rfl) (by simp) ?_
       intro i hi o ho
       simp only [List.mem_cons, List.not_mem_nil, or_false] at hi
       rcases hi with rfl | rfl
       ·simp only [List.getElem?_toArray, List.getElem?_cons_zero, List.getElem?_cons_succ, Option.some.injEq] at ho
        subst ho
        refine .e ?_
        refine AAny.step [6] (by kernel_rfl) (by simp) ?_
        intro i hi o ho
        simp only [List.mem_cons, List.not_mem_nil, or_false] at hi
        subst hi
        ·simp only [List.getElem?_toArray, List.getElem?_cons_zero, List.getElem?_cons_succ, Option.some.injEq] at ho
         subst ho
         refine .e ?_
         refine AAny.step [7] (by kernel_rfl) (by simp) ?_
         intro i hi o ho
         simp only [List.mem_cons, List.not_mem_nil, or_false] at hi
         subst hi
         ·simp only [List.getElem?_toArray, List.getElem?_cons_zero, List.getElem?_cons_succ, Option.some.injEq] at ho
          subst ho
          refine .e ?_
          refine AAny.done (by kernel_rfl) ?_
          refine hK6 _ ?_
          refine .ret ?_
          exact hK _ _ _ _ _ trivial ((Fin.mk (r := .tup [.agg [.int .i64 (S).a.x, .int .i64 (S).a.y, .int .i64 (S).b.x, .int .i64 (S).b.y], .agg [.int .i64 ((⟨ka, kb⟩ : Sp)).x, .int .i64 ((⟨ka, kb⟩ : Sp)).y]]) (by simp (disch := omega) [aRes, aResL, aRes1])).restr (fun i => decide (i < nx))) (⟨⟨S, ⟨ka, kb⟩, So, ⟨kai, kbi⟩, rfl⟩, by simp (disch := first | omega | (simp; done) | (simp; omega)) [hrestr_in, hrestr_out, hrestr_all hd, hupd_same], by first | omega | (simp at *; omega)⟩)
       ·simp only [List.getElem?_toArray, List.getElem?_cons_zero, List.getElem?_cons_succ, Option.some.injEq] at ho
        subst ho
        refine .e ?_
        refine AAny.step [5] (by kernel_rfl) (by simp) ?_
        intro i hi o ho
        simp only [List.mem_cons, List.not_mem_nil, or_false] at hi
        subst hi
        ·simp only [List.getElem?_toArray, List.getElem?_cons_zero, List.getElem?_cons_succ, Option.some.injEq] at ho
         subst ho
         refine .e ?_
         refine AAny.step [7] (by kernel_rfl) (by simp) ?_
         intro i hi o ho
         simp only [List.mem_cons, List.not_mem_nil, or_false] at hi
         subst hi
         ·simp only [List.getElem?_toArray, List.getElem?_cons_zero, List.getElem?_cons_succ, Option.some.injEq] at ho
          subst ho
          refine .e ?_
          refine AAny.done (by kernel_rfl) ?_
          refine hK6 _ ?_
          refine .ret ?_
          exact hK _ _ _ _ _ trivial ((Fin.mk (r := .tup [.agg [.int .i64 (S).a.x, .int .i64 (S).a.y, .int .i64 (S).b.x, .int .i64 (S).b.y], .agg [.int .i64 ((⟨ka, kb⟩ : Sp)).x, .int .i64 ((⟨ka, kb⟩ : Sp)).y]]) (by simp (disch := omega) [aRes, aResL, aRes1])).restr (fun i => decide (i < nx))) (⟨⟨S, ⟨ka, kb⟩, So, ⟨kai, kbi⟩, rfl⟩, by simp (disch := first | omega | (simp; done) | (simp; omega)) [hrestr_in, hrestr_out, hrestr_all hd, hupd_same], by first | omega | (simp at *; omega)⟩)
      ·simp only [List.getElem?_toArray, List.getElem?_cons_zero, List.getElem?_cons_succ, Option.some.injEq] at ho
       subst ho
       refine .e ?_
       refine AAny.step [0] (by kernel_rfl) (by simp) ?_
       intro i hi o ho
       simp only [List.mem_cons, List.not_mem_nil, or_false] at hi
       subst hi
       ·simp only [List.getElem?_toArray, List.getElem?_cons_zero, List.getElem?_cons_succ, Option.some.injEq] at ho
        subst ho
        refine .e ?_
        refine AAny.step [6] (by kernel_rfl) (by simp) ?_
        intro i hi o ho
        simp only [List.mem_cons, List.not_mem_nil, or_false] at hi
        subst hi
        ·simp only [List.getElem?_toArray, List.getElem?_cons_zero, List.getElem?_cons_succ, Option.some.injEq] at ho
         subst ho
         refine .e ?_
         refine AAny.step [7] (by kernel_rfl) (by simp) ?_
         intro i hi o ho
         simp only [List.mem_cons, List.not_mem_nil, or_false] at hi
         subst hi
         ·simp only [List.getElem?_toArray, List.getElem?_cons_zero, List.getElem?_cons_succ, Option.some.injEq] at ho
          subst ho
          refine .e ?_
          refine AAny.done (by kernel_rfl) ?_
          refine hK6 _ ?_
          refine .ret ?_
          exact hK _ _ _ _ _ trivial ((Fin.mk (r := .tup [.agg [.int .i64 (S).a.x, .int .i64 (S).a.y, .int .i64 (S).b.x, .int .i64 (S).b.y], .agg [.int .i64 ((⟨ka, kb⟩ : Sp)).x, .int .i64 ((⟨ka, kb⟩ : Sp)).y]]) (by simp (disch := omega) [aRes, aResL, aRes1])).restr (fun i => decide (i < nx))) (⟨⟨S, ⟨ka, kb⟩, So, ⟨kai, kbi⟩, rfl⟩, by simp (disch := first | omega | (simp; done) | (simp; omega)) [hrestr_in, hrestr_out, hrestr_all hd, hupd_same], by first | omega | (simp at *; omega)⟩)
   ·simp only [List.getElem?_toArray, List.getElem?_cons_zero, List.getElem?_cons_succ, Option.some.injEq] at ho
    subst ho
    refine .e ?_
    refine AAny.step [0, 2] (by kernel_rfl) (by simp) ?_
    intro i hi o ho
    simp only [List.mem_cons, List.not_mem_nil, or_false] at hi
    rcases hi with rfl | rfl
    ·simp only [List.getElem?_toArray, List.getElem?_cons_zero, List.getElem?_cons_succ, Option.some.injEq] at ho
     subst ho
     refine .e ?_
     refine AAny.step [2] (by kernel_rfl) (by simp) ?_
     intro i hi o ho
     simp only [List.mem_cons, List.not_mem_nil, or_false] at hi
     subst hi
     ·simp only [List.getElem?_toArray, List.getElem?_cons_zero, List.getElem?_cons_succ, Option.some.injEq] at ho
      subst ho
      refine AOPS.old fun hold2 => ?_
      refine .a (off_ac l p3 id _ _ dl hl hp3 (by simp (disch := omega) [hH]) hold2) hb129 ?_
      rintro _ _ nx4 ⟨⟨ka, rfl, kai⟩, ⟨p4, hp4, rfl⟩, hnx4⟩
      try simp only [] at hnx4
      clear hold2
      refine AOPS.nil ?_
      refine AAny.step [4] (by kernel_rfl) (by simp) ?_
      intro i hi o ho
      simp only [List.mem_cons, List.not_mem_nil, or_false] at hi
      subst hi
      ·simp only [List.getElem?_toArray, List.getElem?_cons_zero, List.getElem?_cons_succ, Option.some.injEq] at ho
       subst ho
       refine AOPS.old fun hold4 => ?_
       refine .a (off_ac l p4 id _ _ dl hl hp4 (by simp (disch := omega) [hH]) hold4) hb129 ?_
       rintro _ _ nx5 ⟨⟨kb, rfl, kbi⟩, ⟨p5, hp5, rfl⟩, hnx5⟩
       try simp only [] at hnx5
       clear hold4
       refine AOPS.nil ?_
       refine AAny.step [5, 6] (by kernel_rfl) (by simp) ?_
       intro i hi o ho
       simp only [List.mem_cons, List.not_mem_nil, or_false] at hi
       rcases hi with rfl | rfl
       ·simp only [List.getElem?_toArray, List.getElem?_cons_zero, List.getElem?_cons_succ, Option.some.injEq] at ho
        subst ho
        refine .e ?_
        refine AAny.step [6] (by kernel_rfl) (by simp) ?_
        intro i hi o ho
        simp only [List.mem_cons, List.not_mem_nil, or_false] at hi
        subst hi
        ·simp only [List.getElem?_toArray, List.getElem?_cons_zero, List.getElem?_cons_succ, Option.some.injEq] at ho
         subst ho
         refine .e ?_
         refine AAny.step [7] (by kernel_rfl) (by simp) ?_
         intro i hi o ho
         simp only [List.mem_cons, List.not_mem_nil, or_false] at hi
         subst hi
         ·simp only [List.getElem?_toArray, List.getElem?_cons_zero, List.getElem?_cons_succ, Option.some.injEq] at ho
          subst ho
          refine .e ?_
          refine AAny.done (by kernel_rfl) ?_
          refine hK6 _ ?_
          refine .ret ?_
          exact hK _ _ _ _ _ trivial ((Fin.mk (r := .tup [.agg [.int .i64 (S).a.x, .int .i64 (S).a.y, .int .i64 (S).b.x, .int .i64 (S).b.y], .agg [.int .i64 ((⟨ka, kb⟩ : Sp)).x, .int .i64 ((⟨ka, kb⟩ : Sp)).y]]) (by simp (disch := omega) [aRes, aResL, aRes1])).restr (fun i => decide (i < nx))) (⟨⟨S, ⟨ka, kb⟩, So, ⟨kai, kbi⟩, rfl⟩, by simp (disch := first | omega | (simp; done) | (simp; omega)) [hrestr_in, hrestr_out, hrestr_all hd, hupd_same], by first | omega | (simp at *; omega)⟩)
       ·simp only [List.getElem?_toArray, List.getElem?_cons_zero, List.getElem?_cons_succ, Option.some.injEq] at ho
        subst ho
        refine .e ?_
        refine AAny.step [5] (by kernel_rfl) (by simp) ?_
        intro i hi o ho
        simp only [List.mem_cons, List.not_mem_nil, or_false] at hi
        subst hi
        ·simp only [List.getElem?_toArray, List.getElem?_cons_zero, List.getElem?_cons_succ, Option.some.injEq] at ho
         subst ho
         refine .e ?_
         refine AAny.step [7] (by kernel_rfl) (by simp) ?_
         intro i hi o ho
         simp only [List.mem_cons, List.not_mem_nil, or_false] at hi
         subst hi
         ·simp only [List.getElem?_toArray, List.getElem?_cons_zero, List.getElem?_cons_succ, Option.some.injEq] at ho
          subst ho
          refine .e ?_
          refine AAny.done (by kernel_rfl) ?_
          refine hK6 _ ?_
          refine .ret ?_
          exact hK _ _ _ _ _ trivial ((Fin.mk (r := .tup [.agg [.int .i64 (S).a.x, .int .i64 (S).a.y, .int .i64 (S).b.x, .int .i64 (S).b.y], .agg [.int .i64 ((⟨ka, kb⟩ : Sp)).x, .int .i64 ((⟨ka, kb⟩ : Sp)).y]]) (by simp (disch := omega) [aRes, aResL, aRes1])).restr (fun i => decide (i < nx))) (⟨⟨S, ⟨ka, kb⟩, So, ⟨kai, kbi⟩, rfl⟩, by simp (disch := first | omega | (simp; done) | (simp; omega)) [hrestr_in, hrestr_out, hrestr_all hd, hupd_same], by first | omega | (simp at *; omega)⟩)
    ·simp only [List.getElem?_toArray, List.getElem?_cons_zero, List.getElem?_cons_succ, Option.some.injEq] at ho
     subst ho
     refine AOPS.old fun hold2 => ?_
     refine .a (off_ac l p3 id _ _ dl hl hp3 (by simp (disch := omega) [hH]) hold2) hb129 ?_
     rintro _ _ nx4 ⟨⟨ka, rfl, kai⟩, ⟨p4, hp4, rfl⟩, hnx4⟩
     try simp only [] at hnx4
     clear hold2
     refine AOPS.nil ?_
     refine AAny.step [0, 4] (by kernel_rfl) (by simp) ?_
     intro i hi o ho
     simp only [List.mem_cons, List.not_mem_nil, or_false] at hi
     rcases hi with rfl | rfl
     ·simp only [List.getElem?_toArray, List.getElem?_cons_zero, List.getElem?_cons_succ, Option.some.injEq] at ho
      subst ho
      refine .e ?_
      refine AAny.step [4] (by kernel_rfl) (by simp) ?_
      intro i hi o ho
      simp only [List.mem_cons, List.not_mem_nil, or_false] at hi
      subst hi
      ·simp only [List.getElem?_toArray, List.getElem?_cons_zero, List.getElem?_cons_succ, Option.some.injEq] at ho
       subst ho
       refine AOPS.old fun hold4 => ?_
       refine .a (off_ac l p4 id _ _ dl hl hp4 (by simp (disch := omega) [hH]) hold4) hb129 ?_
       rintro _ _ nx5 ⟨⟨kb, rfl, kbi⟩, ⟨p5, hp5, rfl⟩, hnx5⟩
       try simp only [] at hnx5
       clear hold4
       refine AOPS.nil ?_
       refine AAny.step [5, 6] (by kernel_rfl) (by simp) ?_
       intro i hi o ho
       simp only [List.mem_cons, List.not_mem_nil, or_false] at hi
       rcases hi with rfl | rfl
       ·simp only [List.getElem?_toArray, List.getElem?_cons_zero, List.getElem?_cons_succ, Option.some.injEq] at ho
        subst ho
        refine .e ?_
        refine AAny.step [6] (by kernel_rfl) (by simp) ?_
        intro i hi o ho
        simp only [List.mem_cons, List.not_mem_nil, or_false] at hi
        subst hi
        ·simp only [List.getElem?_toArray, List.getElem?_cons_zero, List.getElem?_cons_succ, Option.some.injEq] at ho
         subst ho
         refine .e ?_
         refine AAny.step [7] (by kernel_rfl) (by simp) ?_
         intro i hi o ho
         simp only [List.mem_cons, List.not_mem_nil, or_false] at hi
         subst hi
         ·simp only [List.getElem?_toArray, List.getElem?_cons_zero, List.getElem?_cons_succ, Option.some.injEq] at ho
          subst ho
          refine .e ?_
          refine AAny.done (by kernel_rfl) ?_
          refine hK6 _ ?_
          refine .ret ?_
          exact hK _ _ _ _ _ trivial ((Fin.mk (r := .tup [.agg [.int .i64 (S).a.x, .int .i64 (S).a.y, .int .i64 (S).b.x, .int .i64 (S).b.y], .agg [.int .i64 ((⟨ka, kb⟩ : Sp)).x, .int .i64 ((⟨ka, kb⟩ : Sp)).y]]) (by simp (disch := omega) [aRes, aResL, aRes1])).restr (fun i => decide (i < nx))) (⟨⟨S, ⟨ka, kb⟩, So, ⟨kai, kbi⟩, rfl⟩, by simp (disch := first | omega | (simp; done) | (simp; omega)) [hrestr_in, hrestr_out, hrestr_all hd, hupd_same], by first | omega | (simp at *; omega)⟩)
       ·simp only [List.getElem?_toArray, List.getElem?_cons_zero, List.getElem?_cons_succ, Option.some.injEq] at ho
        subst ho
        refine .e ?_
        refine AAny.step [5] (by kernel_rfl) (by simp) ?_
        intro i hi o ho
        simp only [List.mem_cons, List.not_mem_nil, or_false] at hi
        subst hi
        ·simp only [List.getElem?_toArray, List.getElem?_cons_zero, List.getElem?_cons_succ, Option.some.injEq] at ho
         subst ho
         refine .e ?_
         refine AAny.step [7] (by kernel_rfl) (by simp) ?_
         intro i hi o ho
         simp only [List.mem_cons, List.not_mem_nil, or_false] at hi
         subst hi
         ·simp only [List.getElem?_toArray, List.getElem?_cons_zero, List.getElem?_cons_succ, Option.some.injEq] at ho
          subst ho
          refine .e ?_
          refine AAny.done (by kernel_rfl) ?_
          refine hK6 _ ?_
          refine .ret ?_
          exact hK _ _ _ _ _ trivial ((Fin.mk (r := .tup [.agg [.int .i64 (S).a.x, .int .i64 (S).a.y, .int .i64 (S).b.x, .int .i64 (S).b.y], .agg [.int .i64 ((⟨ka, kb⟩ : Sp)).x, .int .i64 ((⟨ka, kb⟩ : Sp)).y]]) (by simp (disch := omega) [aRes, aResL, aRes1])).restr (fun i => decide (i < nx))) (⟨⟨S, ⟨ka, kb⟩, So, ⟨kai, kbi⟩, rfl⟩, by simp (disch := first | omega | (simp; done) | (simp; omega)) [hrestr_in, hrestr_out, hrestr_all hd, hupd_same], by first | omega | (simp at *; omega)⟩)
     ·simp only [List.getElem?_toArray, List.getElem?_cons_zero, List.getElem?_cons_succ, Option.some.injEq] at ho
      subst ho
      refine AOPS.old fun hold4 => ?_
      refine .a (off_ac l p4 id _ _ dl hl hp4 (by simp (disch := omega) [hH]) hold4) hb129 ?_
      rintro _ _ nx5 ⟨⟨kb, rfl, kbi⟩, ⟨p5, hp5, rfl⟩, hnx5⟩
      try simp only [] at hnx5
      clear hold4
      refine AOPS.nil ?_
      refine AAny.step [0, 5] (by kernel_rfl) (by simp) ?_
      intro i hi o ho
      simp only [List.mem_cons, List.not_mem_nil, or_false] at hi
      rcases hi with rfl | rfl
      ·simp only [List.getElem?_toArray, List.getElem?_cons_zero, List.getElem?_cons_succ, Option.some.injEq] at ho
       subst ho
       refine .e ?_
       refine AAny.step [5, 6] (by kernel_rfl) (by simp) ?_
       intro i hi o ho
       simp only [List.mem_cons, List.not_mem_nil, or_false] at hi
       rcases hi with rfl | rfl
       ·simp only [List.getElem?_toArray, List.getElem?_cons_zero, List.getElem?_cons_succ, Option.some.injEq] at ho
        subst ho
        refine .e ?_
        refine AAny.step [6] (by kernel_rfl) (by simp) ?_
        intro i hi o ho
        simp only [List.mem_cons, List.not_mem_nil, or_false] at hi
        subst hi
        ·simp only [List.getElem?_toArray, List.getElem?_cons_zero, List.getElem?_cons_succ, Option.some.injEq] at ho
         subst ho
         refine .e ?_
         refine AAny.step [7] (by kernel_rfl) (by simp) ?_
         intro i hi o ho
         simp only [List.mem_cons, List.not_mem_nil, or_false] at hi
         subst hi
         ·simp only [List.getElem?_toArray, List.getElem?_cons_zero, List.getElem?_cons_succ, Option.some.injEq] at ho
          subst ho
          refine .e ?_
          refine AAny.done (by kernel_rfl) ?_
          refine hK6 _ ?_
          refine .ret ?_
          exact hK _ _ _ _ _ trivial ((Fin.mk (r := .tup [.agg [.int .i64 (S).a.x, .int .i64 (S).a.y, .int .i64 (S).b.x, .int .i64 (S).b.y], .agg [.int .i64 ((⟨ka, kb⟩ : Sp)).x, .int .i64 ((⟨ka, kb⟩ : Sp)).y]]) (by simp (disch := omega) [aRes, aResL, aRes1])).restr (fun i => decide (i < nx))) (⟨⟨S, ⟨ka, kb⟩, So, ⟨kai, kbi⟩, rfl⟩, by simp (disch := first | omega | (simp; done) | (simp; omega)) [hrestr_in, hrestr_out, hrestr_all hd, hupd_same], by first | omega | (simp at *; omega)⟩)
       ·simp only [List.getElem?_toArray, List.getElem?_cons_zero, List.getElem?_cons_succ, Option.some.injEq] at ho
        subst ho
        refine .e ?_
        refine AAny.step [5] (by kernel_rfl) (by simp) ?_
        intro i hi o ho
        simp only [List.mem_cons, List.not_mem_nil, or_false] at hi
        subst hi
        ·simp only [List.getElem?_toArray, List.getElem?_cons_zero, List.getElem?_cons_succ, Option.some.injEq] at ho
         subst ho
         refine .e ?_
         refine AAny.step [7] (by kernel_rfl) (by simp) ?_
         intro i hi o ho
         simp only [List.mem_cons, List.not_mem_nil, or_false] at hi
         subst hi
         ·simp only [List.getElem?_toArray, List.getElem?_cons_zero, List.getElem?_cons_succ, Option.some.injEq] at ho
          subst ho
          refine .e ?_
          refine AAny.done (by kernel_rfl) ?_
          refine hK6 _ ?_
          refine .ret ?_
          exact hK _ _ _ _ _ trivial ((Fin.mk (r := .tup [.agg [.int .i64 (S).a.x, .int .i64 (S).a.y, .int .i64 (S).b.x, .int .i64 (S).b.y], .agg [.int .i64 ((⟨ka, kb⟩ : Sp)).x, .int .i64 ((⟨ka, kb⟩ : Sp)).y]]) (by simp (disch := omega) [aRes, aResL, aRes1])).restr (fun i => decide (i < nx))) (⟨⟨S, ⟨ka, kb⟩, So, ⟨kai, kbi⟩, rfl⟩, by simp (disch := first | omega | (simp; done) | (simp; omega)) [hrestr_in, hrestr_out, hrestr_all hd, hupd_same], by first | omega | (simp at *; omega)⟩)
      ·simp only [List.getElem?_toArray, List.getElem?_cons_zero, List.getElem?_cons_succ, Option.some.injEq] at ho
       subst ho
       refine .e ?_
       refine AAny.step [0] (by kernel_rfl) (by simp) ?_
       intro i hi o ho
       simp only [List.mem_cons, List.not_mem_nil, or_false] at hi
       subst hi
       ·simp only [List.getElem?_toArray, List.getElem?_cons_zero, List.getElem?_cons_succ, Option.some.injEq] at ho
        subst ho
        refine .e ?_
        refine AAny.step [6] (by kernel_rfl) (by simp) ?_
        intro i hi o ho
        simp only [List.mem_cons, List.not_mem_nil, or_false] at hi
        subst hi
        ·simp only [List.getElem?_toArray, List.getElem?_cons_zero, List.getElem?_cons_succ, Option.some.injEq] at ho
         subst ho
         refine .e ?_
         refine AAny.step [7] (by kernel_rfl) (by simp) ?_
         intro i hi o ho
         simp only [List.mem_cons, List.not_mem_nil, or_false] at hi
         subst hi
         ·simp only [List.getElem?_toArray, List.getElem?_cons_zero, List.getElem?_cons_succ, Option.some.injEq] at ho
          subst ho
          refine .e ?_
          refine AAny.done (by kernel_rfl) ?_
          refine hK6 _ ?_
          refine .ret ?_
          exact hK _ _ _ _ _ trivial ((Fin.mk (r := .tup [.agg [.int .i64 (S).a.x, .int .i64 (S).a.y, .int .i64 (S).b.x, .int .i64 (S).b.y], .agg [.int .i64 ((⟨ka, kb⟩ : Sp)).x, .int .i64 ((⟨ka, kb⟩ : Sp)).y]]) (by simp (disch := omega) [aRes, aResL, aRes1])).restr (fun i => decide (i < nx))) (⟨⟨S, ⟨ka, kb⟩, So, ⟨kai, kbi⟩, rfl⟩, by simp (disch := first | omega | (simp; done) | (simp; omega)) [hrestr_in, hrestr_out, hrestr_all hd, hupd_same], by first | omega | (simp at *; omega)⟩)
  ·simp only [List.getElem?_toArray, List.getElem?_cons_zero, List.getElem?_cons_succ, Option.some.injEq] at ho
   subst ho
   refine .e ?_
   refine AAny.step [0, 1] (by kernel_rfl) (by simp) ?_
   intro i hi o ho
   simp only [List.mem_cons, List.not_mem_nil, or_false] at hi
   rcases hi with rfl | rfl
   ·simp only [List.getElem?_toArray, List.getElem?_cons_zero, List.getElem?_cons_succ, Option.some.injEq] at ho
    subst ho
    refine .e ?_
    refine AAny.step [1] (by kernel_rfl) (by simp) ?_
    intro i hi o ho
    simp only [List.mem_cons, List.not_mem_nil, or_false] at hi
    subst hi
    ·simp only [List.getElem?_toArray, List.getElem?_cons_zero, List.getElem?_cons_succ, Option.some.injEq] at ho
     subst ho
     refine .e ?_
     refine AAny.step [2] (by kernel_rfl) (by simp) ?_
     intro i hi o ho
     simp only [List.mem_cons, List.not_mem_nil, or_false] at hi
     subst hi
     ·simp only [List.getElem?_toArray, List.getElem?_cons_zero, List.getElem?_cons_succ, Option.some.injEq] at ho
      subst ho
      refine AOPS.old fun hold2 => ?_
      refine .a (off_ac l p3 id _ _ dl hl hp3 (by simp (disch := omega) [hH]) hold2) hb129 ?_
      rintro _ _ nx4 ⟨⟨ka, rfl, kai⟩, ⟨p4, hp4, rfl⟩, hnx4⟩
      try simp only [] at hnx4
      clear hold2
      refine AOPS.nil ?_
      refine AAny.step [4] (by kernel_rfl) (by simp) ?_
      intro i hi o ho
      simp only [List.mem_cons, List.not_mem_nil, or_false] at hi
      subst hi
      ·simp only [List.getElem?_toArray, List.getElem?_cons_zero, List.getElem?_cons_succ, Option.some.injEq] at ho
       subst ho
       refine AOPS.old fun hold4 => ?_
       refine .a (off_ac l p4 id _ _ dl hl hp4 (by simp (disch := omega) [hH]) hold4) hb129 ?_
       rintro _ _ nx5 ⟨⟨kb, rfl, kbi⟩, ⟨p5, hp5, rfl⟩, hnx5⟩
       try simp only [] at hnx5
       clear hold4
       refine AOPS.nil ?_
       refine AAny.step [5, 6] (by kernel_rfl) (by simp) ?_
       intro i hi o ho
       simp only [List.mem_cons, List.not_mem_nil, or_false] at hi
       rcases hi with rfl | rfl
       ·simp only [List.getElem?_toArray, List.getElem?_cons_zero, List.getElem?_cons_succ, Option.some.injEq] at ho
        subst ho
        refine .e ?_
        refine AAny.step [6] (by kernel_rfl) (by simp) ?_
        intro i hi o ho
        simp only [List.mem_cons, List.not_mem_nil, or_false] at hi
        subst hi
        ·simp only [List.getElem?_toArray, List.getElem?_cons_zero, List.getElem?_cons_succ, Option.some.injEq] at ho
         subst ho
         refine .e ?_
         refine AAny.step [7] (by kernel_rfl) (by simp) ?_
         intro i hi o ho
         simp only [List.mem_cons, List.not_mem_nil, or_false] at hi
         subst hi
         ·simp only [List.getElem?_toArray, List.getElem?_cons_zero, List.getElem?_cons_succ, Option.some.injEq] at ho
          subst ho
          refine .e ?_
          refine AAny.done (by kernel_rfl) ?_
          refine hK6 _ ?_
          refine .ret ?_
          exact hK _ _ _ _ _ trivial ((Fin.mk (r := .tup [.agg [.int .i64 (S).a.x, .int .i64 (S).a.y, .int .i64 (S).b.x, .int .i64 (S).b.y], .agg [.int .i64 ((⟨ka, kb⟩ : Sp)).x, .int .i64 ((⟨ka, kb⟩ : Sp)).y]]) (by simp (disch := omega) [aRes, aResL, aRes1])).restr (fun i => decide (i < nx))) (⟨⟨S, ⟨ka, kb⟩, So, ⟨kai, kbi⟩, rfl⟩, by simp (disch := first | omega | (simp; done) | (simp; omega)) [hrestr_in, hrestr_out, hrestr_all hd, hupd_same], by first | omega | (simp at *; omega)⟩)
       ·simp only [List.getElem?_toArray, List.getElem?_cons_zero, List.getElem?_cons_succ, Option.some.injEq] at ho
        subst ho
        refine .e ?_
        refine AAny.step [5] (by kernel_rfl) (by simp) ?_
        intro i hi o ho
        simp only [List.mem_cons, List.not_mem_nil, or_false] at hi
        subst hi
        ·simp only [List.getElem?_toArray, List.getElem?_cons_zero, List.getElem?_cons_succ, Option.some.injEq] at ho
         subst ho
         refine .e ?_
         refine AAny.step [7] (by kernel_rfl) (by simp) ?_
         intro i hi o ho
         simp only [List.mem_cons, List.not_mem_nil, or_false] at hi
         subst hi
         ·simp only [List.getElem?_toArray, List.getElem?_cons_zero, List.getElem?_cons_succ, Option.some.injEq] at ho
          subst ho
          refine .e ?_
          refine AAny.done (by kernel_rfl) ?_
          refine hK6 _ ?_
          refine .ret ?_
          exact hK _ _ _ _ _ trivial ((Fin.mk (r := .tup [.agg [.int .i64 (S).a.x, .int .i64 (S).a.y, .int .i64 (S).b.x, .int .i64 (S).b.y], .agg [.int .i64 ((⟨ka, kb⟩ : Sp)).x, .int .i64 ((⟨ka, kb⟩ : Sp)).y]]) (by simp (disch := omega) [aRes, aResL, aRes1])).restr (fun i => decide (i < nx))) (⟨⟨S, ⟨ka, kb⟩, So, ⟨kai, kbi⟩, rfl⟩, by simp (disch := first | omega | (simp; done) | (simp; omega)) [hrestr_in, hrestr_out, hrestr_all hd, hupd_same], by first | omega | (simp at *; omega)⟩)
   ·simp only [List.getElem?_toArray, List.getElem?_cons_zero, List.getElem?_cons_succ, Option.some.injEq] at ho
    subst ho
    refine .e ?_
    refine AAny.step [0, 2] (by kernel_rfl) (by simp) ?_
    intro i hi o ho
    simp only [List.mem_cons, List.not_mem_nil, or_false] at hi
    rcases hi with rfl | rfl
    ·simp only [List.getElem?_toArray, List.getElem?_cons_zero, List.getElem?_cons_succ, Option.some.injEq] at ho
     subst ho
     refine .e ?_
     refine AAny.step [2] (by kernel_rfl) (by simp) ?_
     intro i hi o ho
     simp only [List.mem_cons, List.not_mem_nil, or_false] at hi
     subst hi
     ·simp only [List.getElem?_toArray, List.getElem?_cons_zero, List.getElem?_cons_succ, Option.some.injEq] at ho
      subst ho
      refine AOPS.old fun hold2 => ?_
      refine .a (off_ac l p3 id _ _ dl hl hp3 (by simp (disch := omega) [hH]) hold2) hb129 ?_
      rintro _ _ nx4 ⟨⟨ka, rfl, kai⟩, ⟨p4, hp4, rfl⟩, hnx4⟩
      try simp only [] at hnx4
      clear hold2
      refine AOPS.nil ?_
      refine AAny.step [4] (by kernel_rfl) (by simp) ?_
      intro i hi o ho
      simp only [List.mem_cons, List.not_mem_nil, or_false] at hi
      subst hi
      ·simp only [List.getElem?_toArray, List.getElem?_cons_zero, List.getElem?_cons_succ, Option.some.injEq] at ho
       subst ho
       refine AOPS.old fun hold4 => ?_
       refine .a (off_ac l p4 id _ _ dl hl hp4 (by simp (disch := omega) [hH]) hold4) hb129 ?_
       rintro _ _ nx5 ⟨⟨kb, rfl, kbi⟩, ⟨p5, hp5, rfl⟩, hnx5⟩
       try simp only [] at hnx5
       clear hold4
       refine AOPS.nil ?_
       refine AAny.step [5, 6] (by kernel_rfl) (by simp) ?_
       intro i hi o ho
       simp only [List.mem_cons, List.not_mem_nil, or_false] at hi
       rcases hi with rfl | rfl
       ·simp only [List.getElem?_toArray, List.getElem?_cons_zero, List.getElem?_cons_succ, Option.some.injEq] at ho
        subst ho
        refine .e ?_
        refine AAny.step [6] (by kernel_rfl) (by simp) ?_
        intro i hi o ho
        simp only [List.mem_cons, List.not_mem_nil, or_false] at hi
        subst hi
        ·simp only [List.getElem?_toArray, List.getElem?_cons_zero, List.getElem?_cons_succ, Option.some.injEq] at ho
         subst ho
         refine .e ?_
         refine AAny.step [7] (by kernel_rfl) (by simp) ?_
         intro i hi o ho
         simp only [List.mem_cons, List.not_mem_nil, or_false] at hi
         subst hi
         ·simp only [List.getElem?_toArray, List.getElem?_cons_zero, List.getElem?_cons_succ, Option.some.injEq] at ho
          subst ho
          refine .e ?_
          refine AAny.done (by kernel_rfl) ?_
          refine hK6 _ ?_
          refine .ret ?_
          exact hK _ _ _ _ _ trivial ((Fin.mk (r := .tup [.agg [.int .i64 (S).a.x, .int .i64 (S).a.y, .int .i64 (S).b.x, .int .i64 (S).b.y], .agg [.int .i64 ((⟨ka, kb⟩ : Sp)).x, .int .i64 ((⟨ka, kb⟩ : Sp)).y]]) (by simp (disch := omega) [aRes, aResL, aRes1])).restr (fun i => decide (i < nx))) (⟨⟨S, ⟨ka, kb⟩, So, ⟨kai, kbi⟩, rfl⟩, by simp (disch := first | omega | (simp; done) | (simp; omega)) [hrestr_in, hrestr_out, hrestr_all hd, hupd_same], by first | omega | (simp at *; omega)⟩)
       ·simp only [List.getElem?_toArray, List.getElem?_cons_zero, List.getElem?_cons_succ, Option.some.injEq] at ho
        subst ho
        refine .e ?_
        refine AAny.step [5] (by kernel_rfl) (by simp) ?_
        intro i hi o ho
        simp only [List.mem_cons, List.not_mem_nil, or_false] at hi
        subst hi
        ·simp only [List.getElem?_toArray, List.getElem?_cons_zero, List.getElem?_cons_succ, Option.some.injEq] at ho
         subst ho
         refine .e ?_
         refine AAny.step [7] (by kernel_rfl) (by simp) ?_
         intro i hi o ho
         simp only [List.mem_cons, List.not_mem_nil, or_false] at hi
         subst hi
         ·simp only [List.getElem?_toArray, List.getElem?_cons_zero, List.getElem?_cons_succ, Option.some.injEq] at ho
          subst ho
          refine .e ?_
          refine AAny.done (by kernel_rfl) ?_
          refine hK6 _ ?_
          refine .ret ?_
          exact hK _ _ _ _ _ trivial ((Fin.mk (r := .tup [.agg [.int .i64 (S).a.x, .int .i64 (S).a.y, .int .i64 (S).b.x, .int .i64 (S).b.y], .agg [.int .i64 ((⟨ka, kb⟩ : Sp)).x, .int .i64 ((⟨ka, kb⟩ : Sp)).y]]) (by simp (disch := omega) [aRes, aResL, aRes1])).restr (fun i => decide (i < nx))) (⟨⟨S, ⟨ka, kb⟩, So, ⟨kai, kbi⟩, rfl⟩, by simp (disch := first | omega | (simp; done) | (simp; omega)) [hrestr_in, hrestr_out, hrestr_all hd, hupd_same], by first | omega | (simp at *; omega)⟩)
    ·simp only [List.getElem?_toArray, List.getElem?_cons_zero, List.getElem?_cons_succ, Option.some.injEq] at ho
     subst ho
     refine AOPS.old fun hold2 => ?_
     refine .a (off_ac l p3 id _ _ dl hl hp3 (by simp (disch := omega) [hH]) hold2) hb129 ?_
     rintro _ _ nx4 ⟨⟨ka, rfl, kai⟩, ⟨p4, hp4, rfl⟩, hnx4⟩
     try simp only [] at hnx4
     clear hold2
     refine AOPS.nil ?_
     refine AAny.step [0, 4] (by kernel_rfl) (by simp) ?_
     intro i hi o ho
     simp only [List.mem_cons, List.not_mem_nil, or_false] at hi
     rcases hi with rfl | rfl
     ·simp only [List.getElem?_toArray, List.getElem?_cons_zero, List.getElem?_cons_succ, Option.some.injEq] at ho
      subst ho
      refine .e ?_
      refine AAny.step [4] (by kernel_rfl) (by simp) ?_
      intro i hi o ho
      simp only [List.mem_cons, List.not_mem_nil, or_false] at hi
      subst hi
      ·simp only [List.getElem?_toArray, List.getElem?_cons_zero, List.getElem?_cons_succ, Option.some.injEq] at ho
       subst ho
       refine AOPS.old fun hold4 => ?_
       refine .a (off_ac l p4 id _ _ dl hl hp4 (by simp (disch := omega) [hH]) hold4) hb129 ?_
       rintro _ _ nx5 ⟨⟨kb, rfl, kbi⟩, ⟨p5, hp5, rfl⟩, hnx5⟩
       try simp only [] at hnx5
       clear hold4
       refine AOPS.nil ?_
       refine AAny.step [5, 6] (by kernel_rfl) (by simp) ?_
       intro i hi o ho
       simp only [List.mem_cons, List.not_mem_nil, or_false] at hi
       rcases hi with rfl | rfl
       ·simp only [List.getElem?_toArray, List.getElem?_cons_zero, List.getElem?_cons_succ, Option.some.injEq] at ho
        subst ho
        refine .e ?_
        refine AAny.step [6] (by kernel_rfl) (by simp) ?_
        intro i hi o ho
        simp only [List.mem_cons, List.not_mem_nil, or_false] at hi
        subst hi
        ·simp only [List.getElem?_toArray, List.getElem?_cons_zero, List.getElem?_cons_succ, Option.some.injEq] at ho
         subst ho
         refine .e ?_
         refine AAny.step [7] (by kernel_rfl) (by simp) ?_
         intro i hi o ho
         simp only [List.mem_cons, List.not_mem_nil, or_false] at hi
         subst hi
         ·simp only [List.getElem?_toArray, List.getElem?_cons_zero, List.getElem?_cons_succ, Option.some.injEq] at ho
          subst ho
          refine .e ?_
          refine AAny.done (by kernel_rfl) ?_
          refine hK6 _ ?_
          refine .ret ?_
          exact hK _ _ _ _ _ trivial ((Fin.mk (r := .tup [.agg [.int .i64 (S).a.x, .int .i64 (S).a.y, .int .i64 (S).b.x, .int .i64 (S).b.y], .agg [.int .i64 ((⟨ka, kb⟩ : Sp)).x, .int .i64 ((⟨ka, kb⟩ : Sp)).y]]) (by simp (disch := omega) [aRes, aResL, aRes1])).restr (fun i => decide (i < nx))) (⟨⟨S, ⟨ka, kb⟩, So, ⟨kai, kbi⟩, rfl⟩, by simp (disch := first | omega | (simp; done) | (simp; omega)) [hrestr_in, hrestr_out, hrestr_all hd, hupd_same], by first | omega | (simp at *; omega)⟩)
       ·simp only [List.getElem?_toArray, List.getElem?_cons_zero, List.getElem?_cons_succ, Option.some.injEq] at ho
        subst ho
        refine .e ?_
        refine AAny.step [5] (by kernel_rfl) (by simp) ?_
        intro i hi o ho
        simp only [List.mem_cons, List.not_mem_nil, or_false] at hi
        subst hi
        ·simp only [List.getElem?_toArray, List.getElem?_cons_zero, List.getElem?_cons_succ, Option.some.injEq] at ho
         subst ho
         refine .e ?_
         refine AAny.step [7] (by kernel_rfl) (by simp) ?_
         intro i hi o ho
         simp only [List.mem_cons, List.not_mem_nil, or_false] at hi
         subst hi
         ·simp only [List.getElem?_toArray, List.getElem?_cons_zero, List.getElem?_cons_succ, Option.some.injEq] at ho
          subst ho
          refine .e ?_
          refine AAny.done (by kernel_rfl) ?_
          refine hK6 _ ?_
          refine .ret ?_
          exact hK _ _ _ _ _ trivial ((Fin.mk (r := .tup [.agg [.int .i64 (S).a.x, .int .i64 (S).a.y, .int .i64 (S).b.x, .int .i64 (S).b.y], .agg [.int .i64 ((⟨ka, kb⟩ : Sp)).x, .int .i64 ((⟨ka, kb⟩ : Sp)).y]]) (by simp (disch := omega) [aRes, aResL, aRes1])).restr (fun i => decide (i < nx))) (⟨⟨S, ⟨ka, kb⟩, So, ⟨kai, kbi⟩, rfl⟩, by simp (disch := first | omega | (simp; done) | (simp; omega)) [hrestr_in, hrestr_out, hrestr_all hd, hupd_same], by first | omega | (simp at *; omega)⟩)
     ·simp only [List.getElem?_toArray, List.getElem?_cons_zero, List.getElem?_cons_succ, Option.some.injEq] at ho
      subst ho
      refine AOPS.old fun hold4 => ?_
      refine .a (off_ac l p4 id _ _ dl hl hp4 (by simp (disch := omega) [hH]) hold4) hb129 ?_
      rintro _ _ nx5 ⟨⟨kb, rfl, kbi⟩, ⟨p5, hp5, rfl⟩, hnx5⟩
      try simp only [] at hnx5
      clear hold4
      refine AOPS.nil ?_
      refine AAny.step [0, 5] (by kernel_rfl) (by simp) ?_
      intro i hi o ho
      simp only [List.mem_cons, List.not_mem_nil, or_false] at hi
      rcases hi with rfl | rfl
      ·simp only [List.getElem?_toArray, List.getElem?_cons_zero, List.getElem?_cons_succ, Option.some.injEq] at ho
       subst ho
       refine .e ?_
       refine AAny.step [5, 6] (by kernel_rfl) (by simp) ?_
       intro i hi o ho
       simp only [List.mem_cons, List.not_mem_nil, or_false] at hi
       rcases hi with rfl | rfl
       ·simp only [List.getElem?_toArray, List.getElem?_cons_zero, List.getElem?_cons_succ, Option.some.injEq] at ho
        subst ho
        refine .e ?_
        refine AAny.step [6] (by kernel_rfl) (by simp) ?_
        intro i hi o ho
        simp only [List.mem_cons, List.not_mem_nil, or_false] at hi
        subst hi
        ·simp only [List.getElem?_toArray, List.getElem?_cons_zero, List.getElem?_cons_succ, Option.some.injEq] at ho
         subst ho
         refine .e ?_
         refine AAny.step [7] (by kernel_rfl) (by simp) ?_
         intro i hi o ho
         simp only [List.mem_cons, List.not_mem_nil, or_false] at hi
         subst hi
         ·simp only [List.getElem?_toArray, List.getElem?_cons_zero, List.getElem?_cons_succ, Option.some.injEq] at ho
          subst ho
          refine .e ?_
          refine AAny.done (by kernel_rfl) ?_
          refine hK6 _ ?_
          refine .ret ?_
          exact hK _ _ _ _ _ trivial ((Fin.mk (r := .tup [.agg [.int .i64 (S).a.x, .int .i64 (S).a.y, .int .i64 (S).b.x, .int .i64 (S).b.y], .agg [.int .i64 ((⟨ka, kb⟩ : Sp)).x, .int .i64 ((⟨ka, kb⟩ : Sp)).y]]) (by simp (disch := omega) [aRes, aResL, aRes1])).restr (fun i => decide (i < nx))) (⟨⟨S, ⟨ka, kb⟩, So, ⟨kai, kbi⟩, rfl⟩, by simp (disch := first | omega | (simp; done) | (simp; omega)) [hrestr_in, hrestr_out, hrestr_all hd, hupd_same], by first | omega | (simp at *; omega)⟩)
       ·simp only [List.getElem?_toArray, List.getElem?_cons_zero, List.getElem?_cons_succ, Option.some.injEq] at ho
        subst ho
        refine .e ?_
        refine AAny.step [5] (by kernel_rfl) (by simp) ?_
        intro i hi o ho
        simp only [List.mem_cons, List.not_mem_nil, or_false] at hi
        subst hi
        ·simp only [List.getElem?_toArray, List.getElem?_cons_zero, List.getElem?_cons_succ, Option.some.injEq] at ho
         subst ho
         refine .e ?_
         refine AAny.step [7] (by kernel_rfl) (by simp) ?_
         intro i hi o ho
         simp only [List.mem_cons, List.not_mem_nil, or_false] at hi
         subst hi
         ·simp only [List.getElem?_toArray, List.getElem?_cons_zero, List.getElem?_cons_succ, Option.some.injEq] at ho
          subst ho
          refine .e ?_
          refine AAny.done (by kernel_rfl) ?_
          refine hK6 _ ?_
          refine .ret ?_
          exact hK _ _ _ _ _ trivial ((Fin.mk (r := .tup [.agg [.int .i64 (S).a.x, .int .i64 (S).a.y, .int .i64 (S).b.x, .int .i64 (S).b.y], .agg [.int .i64 ((⟨ka, kb⟩ : Sp)).x, .int .i64 ((⟨ka, kb⟩ : Sp)).y]]) (by simp (disch := omega) [aRes, aResL, aRes1])).restr (fun i => decide (i < nx))) (⟨⟨S, ⟨ka, kb⟩, So, ⟨kai, kbi⟩, rfl⟩, by simp (disch := first | omega | (simp; done) | (simp; omega)) [hrestr_in, hrestr_out, hrestr_all hd, hupd_same], by first | omega | (simp at *; omega)⟩)
      ·simp only [List.getElem?_toArray, List.getElem?_cons_zero, List.getElem?_cons_succ, Option.some.injEq] at ho
       subst ho
       refine .e ?_
       refine AAny.step [0] (by kernel_rfl) (by simp) ?_
       intro i hi o ho
       simp only [List.mem_cons, List.not_mem_nil, or_false] at hi
       subst hi
       ·simp only [List.getElem?_toArray, List.getElem?_cons_zero, List.getElem?_cons_succ, Option.some.injEq] at ho
        subst ho
        refine .e ?_
        refine AAny.step [6] (by kernel_rfl) (by simp) ?_
        intro i hi o ho
        simp only [List.mem_cons, List.not_mem_nil, or_false] at hi
        subst hi
        ·simp only [List.getElem?_toArray, List.getElem?_cons_zero, List.getElem?_cons_succ, Option.some.injEq] at ho
         subst ho
         refine .e ?_
         refine AAny.step [7] (by kernel_rfl) (by simp) ?_
         intro i hi o ho
         simp only [List.mem_cons, List.not_mem_nil, or_false] at hi
         subst hi
         ·simp only [List.getElem?_toArray, List.getElem?_cons_zero, List.getElem?_cons_succ, Option.some.injEq] at ho
          subst ho
          refine .e ?_
          refine AAny.done (by kernel_rfl) ?_
          refine hK6 _ ?_
          refine .ret ?_
          exact hK _ _ _ _ _ trivial ((Fin.mk (r := .tup [.agg [.int .i64 (S).a.x, .int .i64 (S).a.y, .int .i64 (S).b.x, .int .i64 (S).b.y], .agg [.int .i64 ((⟨ka, kb⟩ : Sp)).x, .int .i64 ((⟨ka, kb⟩ : Sp)).y]]) (by simp (disch := omega) [aRes, aResL, aRes1])).restr (fun i => decide (i < nx))) (⟨⟨S, ⟨ka, kb⟩, So, ⟨kai, kbi⟩, rfl⟩, by simp (disch := first | omega | (simp; done) | (simp; omega)) [hrestr_in, hrestr_out, hrestr_all hd, hupd_same], by first | omega | (simp at *; omega)⟩)
 ·try simp only[dc]at h11
  refine .skip ?_
  refine hK4 _ ?_
  refine .sq fun K7 hK7 => ?_
  refine .any Try.checked.mixed ?_
  refine AAny.step [0, 1] (by kernel_rfl) (by simp) ?_
  intro i hi o ho
  simp only [List.mem_cons, List.not_mem_nil, or_false] at hi
  rcases hi with rfl | rfl
  ·simp only [List.getElem?_toArray, List.getElem?_cons_zero, List.getElem?_cons_succ, Option.some.injEq] at ho
   subst ho
   refine .e ?_
   refine AAny.step [1] (by kernel_rfl) (by simp) ?_
   intro i hi o ho
   simp only [List.mem_cons, List.not_mem_nil, or_false] at hi
   subst hi
   ·simp only [List.getElem?_toArray, List.getElem?_cons_zero, List.getElem?_cons_succ, Option.some.injEq] at ho
    subst ho
    refine .e ?_
    refine AAny.step [2] (by kernel_rfl) (by simp) ?_
    intro i hi o ho
    simp only [List.mem_cons, List.not_mem_nil, or_false] at hi
    subst hi
    ·simp only [List.getElem?_toArray, List.getElem?_cons_zero, List.getElem?_cons_succ, Option.some.injEq] at ho
     subst ho
     refine AOPS.old fun hold2 => ?_
     refine .a (spot_ac l p3 id _ _ dl hl hp3 (by simp (disch := omega) [hH]) hold2) hb130 ?_
     rintro _ _ nx4 ⟨⟨ax, ay, rfl, ax0, ax1, ay0, ay1⟩, ⟨p4, hp4, rfl⟩, hnx4⟩
     try simp only [] at hnx4
     clear hold2
     refine AOPS.nil ?_
     refine AAny.step [3] (by kernel_rfl) (by simp) ?_
     intro i hi o ho
     simp only [List.mem_cons, List.not_mem_nil, or_false] at hi
     subst hi
     ·simp only [List.getElem?_toArray, List.getElem?_cons_zero, List.getElem?_cons_succ, Option.some.injEq] at ho
      subst ho
      refine .e ?_
      refine AAny.step [4] (by kernel_rfl) (by simp) ?_
      intro i hi o ho
      simp only [List.mem_cons, List.not_mem_nil, or_false] at hi
      subst hi
      ·simp only [List.getElem?_toArray, List.getElem?_cons_zero, List.getElem?_cons_succ, Option.some.injEq] at ho
       subst ho
       refine .e ?_
       refine AAny.done (by kernel_rfl) ?_
       refine hK7 _ ?_
       refine .ret ?_
       exact hK _ _ _ _ _ trivial ((Fin.mk (r := .tup [.agg [.int .i64 (S).a.x, .int .i64 (S).a.y, .int .i64 (S).b.x, .int .i64 (S).b.y], .agg [.int .i64 ((⟨ax, ay⟩ : Sp)).x, .int .i64 ((⟨ax, ay⟩ : Sp)).y]]) (by simp (disch := omega) [aRes, aResL, aRes1])).restr (fun i => decide (i < nx))) (⟨⟨S, ⟨ax, ay⟩, So, ⟨by unfold I64; first | omega | (simp only []; omega), by unfold I64; first | omega | (simp only []; omega)⟩, rfl⟩, by simp (disch := first | omega | (simp; done) | (simp; omega)) [hrestr_in, hrestr_out, hrestr_all hd, hupd_same], by first | omega | (simp at *; omega)⟩)
  ·simp only [List.getElem?_toArray, List.getElem?_cons_zero, List.getElem?_cons_succ, Option.some.injEq] at ho
   subst ho
   refine .e ?_
   refine AAny.step [0, 2] (by kernel_rfl) (by simp) ?_
   intro i hi o ho
   simp only [List.mem_cons, List.not_mem_nil, or_false] at hi
   rcases hi with rfl | rfl
   ·simp only [List.getElem?_toArray, List.getElem?_cons_zero, List.getElem?_cons_succ, Option.some.injEq] at ho
    subst ho
    refine .e ?_
    refine AAny.step [2] (by kernel_rfl) (by simp) ?_
    intro i hi o ho
    simp only [List.mem_cons, List.not_mem_nil, or_false] at hi
    subst hi
    ·simp only [List.getElem?_toArray, List.getElem?_cons_zero, List.getElem?_cons_succ, Option.some.injEq] at ho
     subst ho
     refine AOPS.old fun hold2 => ?_
     refine .a (spot_ac l p3 id _ _ dl hl hp3 (by simp (disch := omega) [hH]) hold2) hb130 ?_
     rintro _ _ nx4 ⟨⟨ax, ay, rfl, ax0, ax1, ay0, ay1⟩, ⟨p4, hp4, rfl⟩, hnx4⟩
     try simp only [] at hnx4
     clear hold2
     refine AOPS.nil ?_
     refine AAny.step [3] (by kernel_rfl) (by simp) ?_
     intro i hi o ho
     simp only [List.mem_cons, List.not_mem_nil, or_false] at hi
     subst hi
     ·simp only [List.getElem?_toArray, List.getElem?_cons_zero, List.getElem?_cons_succ, Option.some.injEq] at ho
      subst ho
      refine .e ?_
      refine AAny.step [4] (by kernel_rfl) (by simp) ?_
      intro i hi o ho
      simp only [List.mem_cons, List.not_mem_nil, or_false] at hi
      subst hi
      ·simp only [List.getElem?_toArray, List.getElem?_cons_zero, List.getElem?_cons_succ, Option.some.injEq] at ho
       subst ho
       refine .e ?_
       refine AAny.done (by kernel_rfl) ?_
       refine hK7 _ ?_
       refine .ret ?_
       exact hK _ _ _ _ _ trivial ((Fin.mk (r := .tup [.agg [.int .i64 (S).a.x, .int .i64 (S).a.y, .int .i64 (S).b.x, .int .i64 (S).b.y], .agg [.int .i64 ((⟨ax, ay⟩ : Sp)).x, .int .i64 ((⟨ax, ay⟩ : Sp)).y]]) (by simp (disch := omega) [aRes, aResL, aRes1])).restr (fun i => decide (i < nx))) (⟨⟨S, ⟨ax, ay⟩, So, ⟨by unfold I64; first | omega | (simp only []; omega), by unfold I64; first | omega | (simp only []; omega)⟩, rfl⟩, by simp (disch := first | omega | (simp; done) | (simp; omega)) [hrestr_in, hrestr_out, hrestr_all hd, hupd_same], by first | omega | (simp at *; omega)⟩)
   ·simp only [List.getElem?_toArray, List.getElem?_cons_zero, List.getElem?_cons_succ, Option.some.injEq] at ho
    subst ho
    refine AOPS.old fun hold2 => ?_
    refine .a (spot_ac l p3 id _ _ dl hl hp3 (by simp (disch := omega) [hH]) hold2) hb130 ?_
    rintro _ _ nx4 ⟨⟨ax, ay, rfl, ax0, ax1, ay0, ay1⟩, ⟨p4, hp4, rfl⟩, hnx4⟩
    try simp only [] at hnx4
    clear hold2
    refine AOPS.nil ?_
    refine AAny.step [0] (by kernel_rfl) (by simp) ?_
    intro i hi o ho
    simp only [List.mem_cons, List.not_mem_nil, or_false] at hi
    subst hi
    ·simp only [List.getElem?_toArray, List.getElem?_cons_zero, List.getElem?_cons_succ, Option.some.injEq] at ho
     subst ho
     refine .e ?_
     refine AAny.step [3] (by kernel_rfl) (by simp) ?_
     intro i hi o ho
     simp only [List.mem_cons, List.not_mem_nil, or_false] at hi
     subst hi
     ·simp only [List.getElem?_toArray, List.getElem?_cons_zero, List.getElem?_cons_succ, Option.some.injEq] at ho
      subst ho
      refine .e ?_
      refine AAny.step [4] (by kernel_rfl) (by simp) ?_
      intro i hi o ho
      simp only [List.mem_cons, List.not_mem_nil, or_false] at hi
      subst hi
      ·simp only [List.getElem?_toArray, List.getElem?_cons_zero, List.getElem?_cons_succ, Option.some.injEq] at ho
       subst ho
       refine .e ?_
       refine AAny.done (by kernel_rfl) ?_
       refine hK7 _ ?_
       refine .ret ?_
       exact hK _ _ _ _ _ trivial ((Fin.mk (r := .tup [.agg [.int .i64 (S).a.x, .int .i64 (S).a.y, .int .i64 (S).b.x, .int .i64 (S).b.y], .agg [.int .i64 ((⟨ax, ay⟩ : Sp)).x, .int .i64 ((⟨ax, ay⟩ : Sp)).y]]) (by simp (disch := omega) [aRes, aResL, aRes1])).restr (fun i => decide (i < nx))) (⟨⟨S, ⟨ax, ay⟩, So, ⟨by unfold I64; first | omega | (simp only []; omega), by unfold I64; first | omega | (simp only []; omega)⟩, rfl⟩, by simp (disch := first | omega | (simp; done) | (simp; omega)) [hrestr_in, hrestr_out, hrestr_all hd, hupd_same], by first | omega | (simp at *; omega)⟩)
end

end Go.Proofs.Ytmaebeknmiomnaa

/- Walks: FnNearOf: the law. -/
namespace Go.Proofs.Ytmaebeknmiomnaa
open Go Go.RowKit
set_option linter.unusedSimpArgs false
set_option linter.unusedVariables false
set_option maxRecDepth 100000
attribute [local simp] szT2 byT2 agT2 unT2 zoT2 szT3 byT3 agT3 unT3 zoT3 szT4 byT4 agT4 unT4 zoT4 szT24 byT24 agT24 unT24 zoT24 szT26 byT26 agT26 flT26 fdT26_0 fdT26_1 fdT26_2 fdT26_3 zoT26 szT28 byT28 agT28 flT28 fdT28_0 fdT28_1 fdT28_2 zoT28 szT51 byT51 agT51 flT51 fdT51_0 fdT51_1 zoT51 szT67 byT67 agT67 flT67 fdT67_0 fdT67_1 zoT67 szT69 byT69 agT69 flT69 fdT69_0 fdT69_1 zoT69 szT80 byT80 agT80 elT80 unT80 zoT80

theorem neF_both {s : Sg} {p : Sp} : (neF s p).2 = (s.good && p.good) := by
  unfold neF
  cases gs : s.good <;> cases gp : p.good
  · rfl
  · rfl
  · rfl
  · simp only [Bool.and_self, if_true]; exact ne_true gs gp
theorem near_all {s : Sg} {p : Sp} (gs : s.good = true) (gp : p.good = true) : ∀ q ∈ [ptS s.a, ptS s.b, midP (ptS s.a) (ptS s.b)], q.ok ∧ (d2F (ptS p) q).2 = true ∧ (cmpF (told (nrQ s p).1 (nrQ s p).2).1 (d2F (ptS p) q).1).1 ≤ 0 := by
  have hd := nrQ_pos (p := p) gs
  have ht := ne_true gs gp
  obtain ⟨n1, n2, _, _, _, n6⟩ := near_b gs gp
  intro q hq
  simp only [List.mem_cons, List.not_mem_nil, or_false] at hq
  rcases hq with rfl | rfl | rfl
  · have h2 : (told (sq2 s.a p) 1).2 = true := told_true (by omega) (bg3 (by omega)) (bg3 (by simp))
    rw [d2_spot (good_a gs) gp]
    exact ⟨pt3_ok _ _ _, h2, cmp_told hd (by omega) ht h2 (nrQ_a gs)⟩
  · have h2 : (told (sq2 s.b p) 1).2 = true := told_true (by omega) (bg3 (by omega)) (bg3 (by simp))
    rw [d2_spot (good_b gs) gp]
    exact ⟨pt3_ok _ _ _, h2, cmp_told hd (by omega) ht h2 (nrQ_b gs)⟩
  · have h2 : (told (sqM s p) 4).2 = true := told_true (by omega) (bg3 (by omega)) (bg3 (by simp))
    rw [d2_mid gs gp]
    exact ⟨midP_ok _ _, h2, cmp_told hd (by omega) ht h2 (nrQ_m gs)⟩

section
attribute [local simp] idf_numS cells_numS numS_fold idf_numI cells_numI numI_fold Sp.av Sp.cells Sg.av Sg.cells Pt.av Pt.cells Rt.av Rt.cells
set_option maxHeartbeats 8000000 in
theorem fnNearOf_fc (l : List Int) (dl : Dig 256 l) : FC Try.prog 8 [Wd .u8 l] (.bool true) := by
 refine .b Try.func8 107 (fun nx K hK => ?_)
 refine .q ?_
 refine .sq fun K2 hK2 => ?_
 refine .sq fun K3 hK3 => ?_
 refine .region ?_
 refine .kf 1 (big_fc l) hb15 ?_
 refine .nil ?_
 refine hK3 _ ?_
 refine .c (t := decide (1048576 < (l.length : Int))) (fun h21 => ?_) (fun h21 => ?_)
 ·try simp only[dc]at h21
  refine .q ?_
  refine .ret ?_
  exact hK _ _ _ _ trivial ((Fin.m))
 ·try simp only[dc]at h21
  have hl : l.length ≤ 1048576 := by omega
  refine .skip ?_
  refine hK2 _ ?_
  refine .sq fun K5 hK5 => ?_
  refine .region ?_
  refine .k 1 ?_
  refine AOPS.old fun hold1 => ?_
  refine .a (drawNear2_ac l _ _ dl hl hold1) hb45 ?_
  rintro _ _ nx1 ⟨⟨S, P, So, Po, rfl⟩, rfl, hnx1⟩
  clear hold1
  have o1 := nearI_fc S P
  have o2 := nearS_fc S P
  refine .e ?_
  refine hK5 _ ?_
  refine .sq fun K6 hK6 => ?_
  refine .region ?_
  refine .kf 2 o1 hb46 ?_
  refine .e ?_
  refine hK6 _ ?_
  refine .sq fun K7 hK7 => ?_
  refine .region ?_
  refine .kf 2 o2 hb47 ?_
  refine .e ?_
  refine hK7 _ ?_
  refine .sq fun K8 hK8 => ?_
  refine .q ?_ (by simp (disch := first|omega|(simp only[ln];omega)) [eqRt]; rfl)
  refine .c (fun h46 => ?_) (fun h46 => ?_)
  ·simp at h46
  ·try simp only[dc]at h46
   refine .skip ?_
   refine hK8 _ ?_
   refine .sq fun K10 hK10 => ?_
   refine .q ?_
   refine .c (t := !(neF S P).2) (fun h48 => ?_) (fun h48 => ?_)
   ·try simp only[dc]at h48
    have hk : (S.good && P.good) = false := by rw [neF_both] at h48; revert h48; cases S.good <;> cases P.good <;> simp
    refine .sq fun K12 hK12 => ?_
    cases gs : S.good
    ·refine .region ?_
     refine .kf 1 (segOkI_fc S) hb48 ?_ (by simp (disch := first|omega|(simp only[ln];omega)) [List.take_succ_cons, List.take_zero, gs]; rfl) (ha := by simp (disch := first|omega|(simp only[ln];omega)) [idf_Wd', gs])
     refine .e ?_ (by simp (disch := first|omega|(simp only[ln];omega)) [gs]; rfl)
     refine hK12 _ ?_
     refine .ret ?_
     exact hK _ _ _ _ trivial ((Fin.m))
    ·cases gp : P.good
     ·refine .region ?_
      refine .kf 1 (segOkI_fc S) hb48 ?_ (by simp (disch := first|omega|(simp only[ln];omega)) [List.take_succ_cons, List.take_zero, gs, gp]; rfl) (ha := by simp (disch := first|omega|(simp only[ln];omega)) [idf_Wd', gs, gp])
      refine .kf 3 (spotOkI_fc P) hb49 ?_ (by simp (disch := first|omega|(simp only[ln];omega)) [List.take_succ_cons, List.take_zero, gs, gp]; rfl) (ha := by simp (disch := first|omega|(simp only[ln];omega)) [idf_Wd', gs, gp])
      refine .e ?_ (by simp (disch := first|omega|(simp only[ln];omega)) [gs, gp]; rfl)
      refine hK12 _ ?_
      refine .ret ?_
      exact hK _ _ _ _ trivial ((Fin.m))
     ·rw [gs, gp] at hk
      simp at hk
   ·try simp only[dc]at h48
    have hk : (neF S P).2 = true := by simpa using h48
    refine .skip ?_
    refine hK10 _ ?_
    refine .sq fun K13 hK13 => ?_
    obtain ⟨gs, gp⟩ : S.good = true ∧ P.good = true := by rw [neF_both] at hk; simpa using hk
    have hall := near_all gs gp
    have hon := near_on gs gp
    have o3 := pointOfI_fc P gp
    have o4 := pointOfI_fc S.a (good_a gs)
    have o5 := pointOfI_fc S.b (good_b gs)
    have o6 := middleI_fc (ptS S.a) (ptS S.b) (pt3_ok _ _ _) (pt3_ok _ _ _)
    have o7 := onSegF_fc S (ptS P) (pt3_ok _ _ _)
    have Do : (neF S P).1.ok := by rw [neEq gs gp]; exact told_ok _ _
    rw [← neEq gs gp] at hall hon
    have To : (ptS P).ok := pt3_ok _ _ _
    generalize (neF S P).1 = D at *
    generalize ptS P = T at *
    generalize ptS S.a = A at *
    generalize ptS S.b = B at *
    generalize midP A B = M at *
    obtain ⟨Qs, hQs⟩ : ∃ Qs, Qs = [A, B, M] := ⟨_, rfl⟩
    have hQl : Qs.length = 3 := by rw [hQs]; rfl
    rw [← hQs] at hall
    refine .region ?_
    refine .kf 1 o3 hb50 ?_
    refine .e ?_
    refine hK13 _ ?_
    refine .sq fun K14 hK14 => ?_
    refine .region ?_
    refine .kf 2 o4 hb50 ?_
    refine .e ?_
    refine hK14 _ ?_
    refine .sq fun K15 hK15 => ?_
    refine .region ?_
    refine .kf 2 o5 hb50 ?_
    refine .e ?_
    refine hK15 _ ?_
    refine .sq fun K16 hK16 => ?_
    refine .region ?_
    refine .kf 2 o6 hb29 ?_
    refine .e ?_
    refine hK16 _ ?_
    refine .sq fun K17 hK17 => ?_
    refine .sq fun K18 hK18 => ?_
    refine AWP.region ?_
    refine AOPS.runk 4 (by simp (disch := first|omega|(simp only[ln];omega)) [List.take_succ_cons, List.take_zero]; rfl) ?_
    simp only [List.drop_succ_cons, List.drop_zero]
    refine AOPS.frz1 74 (nx1 + 1 + 1 + 1 + 1 + 1 + 1 + 1 + 1) 12 [A.cells, B.cells, M.cells] (.isl [A.cells, B.cells, M.cells]) (by simp [Pt.cells]) (by simp [fz]) ?_
    refine AOPS.all (by simp (disch := first|omega|(simp only[ln];omega)) [List.take_succ_cons, List.take_zero]; rfl) ?_
    refine hK18 _ ?_
    refine .block ?_
    
    refine .loop (fun N s => ∃ i : Nat, N = 3 - i ∧ i ≤ 3 ∧ s.env 3 = .ptr nx1 0 0 ∧ s.env 5 = .ptr (nx1 + 1 + 1) 0 0 ∧ s.env 9 = .ptr (nx1 + 1 + 1 + 1 + 1) 0 0 ∧ s.env 74 = .isl (Qs.map Pt.cells) ∧ s.env 75 = .int .i64 (3 : Int) ∧ s.env 76 = .int .i64 (i : Int) ∧ s.heap nx1 = some (4, [[.int .i64 S.a.x, .int .i64 S.a.y, .int .i64 S.b.x, .int .i64 S.b.y]]) ∧ nx1 < s.nx ∧ s.heap (nx1 + 1 + 1) = some (8, [[.int .u64 D.up.a, .int .u64 D.up.b, .int .u64 D.up.c, .int .u64 D.up.d, .int .u64 D.down.a, .int .u64 D.down.b, .int .u64 D.down.c, .int .u64 D.down.d]]) ∧ (nx1 + 1 + 1) < s.nx ∧ s.heap (nx1 + 1 + 1 + 1 + 1) = some (12, [[.int .u64 T.x.a, .int .u64 T.x.b, .int .u64 T.x.c, .int .u64 T.x.d, .int .u64 T.y.a, .int .u64 T.y.b, .int .u64 T.y.c, .int .u64 T.y.d, .int .u64 T.w.a, .int .u64 T.w.b, .int .u64 T.w.c, .int .u64 T.w.d]]) ∧ (nx1 + 1 + 1 + 1 + 1) < s.nx ∧ s.nt = 107) (3) (by refine ⟨0, by omega, by omega, ?_, ?_, ?_, ?_, ?_, ?_, ?_, ?_, ?_, ?_, ?_, ?_, rfl⟩ <;> first|(simp (disch := omega) [hQs, Pt.cells];done)|omega|(simp;done)|(simp;omega)) ?_
    rintro N ⟨e, H, mm, nt⟩ ⟨i, rfl, hi, g3, g5, g9, g74, g75, g76, HS, xS, HD, xD, HP, xP, rfl⟩
    simp only [] at g3 g5 g9 g74 g75 g76 HS xS HD xD HP xP
    refine .q ?_ (by simp (disch := first|omega|(simp only[ln];omega)) [g75, g76]; rfl)
    refine .sq fun K20 hK20 => ?_
    refine .c (fun h77 => ?_) (fun h77 => ?_)
    ·try simp only[dc]at h77
     have hi' : i < Qs.length := by omega
     obtain ⟨q, hq⟩ : ∃ q, Qs[i]? = some q := ⟨Qs[i], by simp [hi']⟩
     have hqm : (Qs.map Pt.cells)[i]? = some q.cells := by rw [List.getElem?_map, hq]; rfl
     obtain ⟨qo, qd, qc⟩ := hall q (List.mem_of_getElem? hq)
     have e1 := dist2_fc T q To qo
     have Eo := d2F_ok T q
     have e2 := ratioCmpI_fc D (d2F T q).1 Do Eo
     rw [qd] at e1
     have dc : decide (0 < (cmpF D (d2F T q).1).1) = false := decide_eq_false (by omega)
     generalize (d2F T q).1 = E at *
     generalize cmpF D E = C at *
     refine .skip ?_
     refine hK20 _ ?_
     refine .sq fun K21 hK21 => ?_
     refine .block ?_
     refine .q ?_ (by simp (disch := first|omega|(simp only[ln];omega)) [if_pos, g74, g76, hqm, hQl]; rfl)
     refine .sq fun K23 hK23 => ?_
     refine .region ?_
     refine .kf 2 e1 hb33 ?_ (by simp (disch := first|omega|(simp only[ln];omega)) [List.take_succ_cons, List.take_zero, g9, HP]; rfl) (ha := by simp (disch := first|omega|(simp only[ln];omega)) [idf_Wd', g9, HP])
     refine .e ?_ (by simp (disch := first|omega|(simp only[ln];omega)) [g9, HP]; rfl)
     refine hK23 _ ?_
     refine .sq fun K24 hK24 => ?_
     refine .region ?_
     refine .kf 2 e2 hb51 ?_ (by simp (disch := first|omega|(simp only[ln];omega)) [List.take_succ_cons, List.take_zero, g5, HD]; rfl) (ha := by simp (disch := first|omega|(simp only[ln];omega)) [idf_Wd', g5, HD])
     refine .e ?_ (by simp (disch := first|omega|(simp only[ln];omega)) [g5, HD]; rfl)
     refine hK24 _ ?_
     refine .q ?_ (by simp (disch := first|omega|(simp only[ln];omega)) [dc]; rfl)
     refine .c (fun h97 => ?_) (fun h97 => ?_)
     ·simp at h97
     ·try simp only[dc]at h97
      refine .skip ?_
      refine hK21 _ ?_
      refine .r ?_ (by simp (disch := first|omega|(simp only[ln];omega)) [g76]; rfl)
      refine ⟨3 - (i + 1), by omega, i + 1, rfl, by omega, ?_, ?_, ?_, ?_, ?_, ?_, ?_, ?_, ?_, ?_, ?_, ?_, rfl⟩ <;> first|(simp (disch := omega) [g3, g5, g9, g74, g75, g76, HS, HD, HP];done)|omega|(simp;done)|(simp;omega)
    ·try simp only[dc]at h77
     have hin : i = 3 := by omega
     subst hin
     refine .exit ?_
     refine hK17 _ ?_
     refine .sq fun K26 hK26 => ?_
     refine .d 8 ?_
     refine .k 2 (fun fs27 hfs27 => ?_) (by simp (disch := first|omega|(simp only[ln];omega)) [runDf.eq_def, runF1, runF2, stepF.eq_def, updo.eq_def, hupo.eq_def, opSto1.eq_def, List.take_succ_cons, List.take_zero, g3, g5, g9, g74, g75, g76, HS, HD, HP, hon, wdI]; rfl)
     refine .f (wideSignI_fc D.up Do.1) hb52 ?_ (ha := by simp (disch := first|omega|(simp only[ln];omega)) [idf_Wd', g3, g5, g9, g74, g75, g76, HS, HD, HP, hon, wdI])
     refine .k 3 (fun fs28 hfs28 => ?_) (by simp (disch := first|omega|(simp only[ln];omega)) [runDf.eq_def, runF1, runF2, stepF.eq_def, updo.eq_def, hupo.eq_def, opSto1.eq_def, List.take_succ_cons, List.take_zero, g3, g5, g9, g74, g75, g76, HS, HD, HP, hon, wdI]; rfl)
     refine .f o7 hb43 ?_ (ha := by simp (disch := first|omega|(simp only[ln];omega)) [idf_Wd', g3, g5, g9, g74, g75, g76, HS, HD, HP, hon, wdI])
     refine .k 1 (fun fs29 hfs29 => ?_) (by simp (disch := first|omega|(simp only[ln];omega)) [runDf.eq_def, runF1, runF2, stepF.eq_def, updo.eq_def, hupo.eq_def, opSto1.eq_def, List.take_succ_cons, List.take_zero, g3, g5, g9, g74, g75, g76, HS, HD, HP, hon, wdI]; rfl)
     refine .r 8 (by simp only[ln, hfs27, hfs28, hfs29];omega) ?_ (by simp (disch := first|omega|(simp only[ln];omega)) [runDf.eq_def, runF1, runF2, stepF.eq_def, updo.eq_def, hupo.eq_def, opSto1.eq_def, g3, g5, g9, g74, g75, g76, HS, HD, HP, hon, wdI]; rfl)
     refine hK26 _ ?_
     refine .ret ?_
     exact hK _ _ _ _ trivial ((Fin.m))
end

end Go.Proofs.Ytmaebeknmiomnaa
