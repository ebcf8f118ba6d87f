/- Walks: points made and halved by the reference. -/
import Derived.Test.YtaibemhdfhchfaaGreatG11

namespace Go.Proofs.YtaibemhdfhchfaaGreat
open Go Go.RowKit
set_option linter.unusedSimpArgs false
set_option linter.unusedVariables false
set_option maxRecDepth 100000
attribute [local simp] szT25 byT25 agT25 unT25 zoT25 szT27 byT27 agT27 flT27 fdT27_0 fdT27_1 fdT27_2 fdT27_3 zoT27 szT29 byT29 agT29 flT29 fdT29_0 fdT29_1 fdT29_2 zoT29

theorem eqW1 (n : Nat) (a a' : Int) : eqW Tryz.prog (n + 1) 25 [.int .u64 a] [.int .u64 a'] = some (a == a') := by
  unfold eqW; simp only [Tryz.underlying25]; rfl
theorem eqW4 (a b c d a' b' c' d' : Int) : eqW Tryz.prog 8 27 [.int .u64 a, .int .u64 b, .int .u64 c, .int .u64 d] [.int .u64 a', .int .u64 b', .int .u64 c', .int .u64 d'] = some ((a == a') && ((b == b') && ((c == c') && ((d == d') && true)))) := by
  have hs : Tryz.prog.stoodInHeld 27 = false := by kernel_rfl
  have hz : szOf Tryz.prog 25 = some 1 := by kernel_rfl
  have ha : aggT Tryz.prog 25 = some false := by kernel_rfl
  unfold eqW
  simp only [Tryz.underlying27, hs]
  simp [eqF, hz, ha, eqW1]

section
attribute [local simp] idf_numS cells_numS numS_fold wdI
set_option maxHeartbeats 2000000 in
theorem pointMakeS_fc (x y w : W4) (hx : x.ok) (hy : y.ok) (hw : w.ok) : FC Tryz.prog 158 [.agg [.int .u64 x.a, .int .u64 x.b, .int .u64 x.c, .int .u64 x.d], .agg [.int .u64 y.a, .int .u64 y.b, .int .u64 y.c, .int .u64 y.d], .agg [.int .u64 w.a, .int .u64 w.b, .int .u64 w.c, .int .u64 w.d]] (.tup [.agg [.int .u64 (mkP x.v y.v w.v).x.a, .int .u64 (mkP x.v y.v w.v).x.b, .int .u64 (mkP x.v y.v w.v).x.c, .int .u64 (mkP x.v y.v w.v).x.d, .int .u64 (mkP x.v y.v w.v).y.a, .int .u64 (mkP x.v y.v w.v).y.b, .int .u64 (mkP x.v y.v w.v).y.c, .int .u64 (mkP x.v y.v w.v).y.d, .int .u64 (mkP x.v y.v w.v).w.a, .int .u64 (mkP x.v y.v w.v).w.b, .int .u64 (mkP x.v y.v w.v).w.c, .int .u64 (mkP x.v y.v w.v).w.d], .bool (mkB x.v y.v w.v)]) := by
 have bX := W4.bg hx
 have bY := W4.bg hy
 have bW := W4.bg hw
 refine .b Tryz.func158 22 (fun nx K hK => ?_)
 refine .q ?_
 refine .sq fun K2 hK2 => ?_
 refine .sq fun K3 hK3 => ?_
 by_cases hz : w.a = 0 ∧ w.b = 0 ∧ w.c = 0 ∧ w.d = 0
 ·obtain ⟨wa, wb, wc, wd⟩ := w
  simp only [] at hz
  obtain ⟨rfl, rfl, rfl, rfl⟩ := hz
  have hv : W4.v ⟨0, 0, 0, 0⟩ = 0 := v_zero
  refine .r ?_ (by simp (disch := first|omega|(simp only[ln];omega)) [eqW4]; rfl)
  refine hK3 _ ?_
  refine .c (fun h10 => ?_) (fun h10 => ?_)
  ·try simp only[dc]at h10
   refine .q ?_
   refine .ret ?_
   exact hK _ _ _ _ trivial ((Fin.m).cast (by rw [mkP, mkB, if_pos hv, if_pos hv]; rfl))
  ·simp at h10
 ·have hne : w.v ≠ 0 := W4.ne hw hz
  refine .r ?_ (by simp (disch := first|omega|(simp only[ln];omega)) [eqW4]; rfl)
  refine hK3 _ ?_
  refine .c (fun h10 => ?_) (fun h10 => ?_)
  ·exact absurd (by simpa [and_assoc] using h10) hz
  ·try simp only[dc]at h10
   have hgp := gcd3_pos (x := x.v) (y := y.v) hne
   refine .skip ?_
   refine hK2 _ ?_
   refine .sq fun K5 hK5 => ?_
   refine .d 10 ?_
   refine .k 1 (fun fs6 hfs6 => ?_) (by simp (disch := first|omega|(simp only[ln];omega)) [runDf.eq_def, runF1, runF2, stepF.eq_def, updo.eq_def, hupo.eq_def, opSto1.eq_def, List.take_succ_cons, List.take_zero, W4.v]; rfl)
   refine .f (l1From_fc x.a x.b x.c x.d hx.1 hx.2.1 hx.2.2.1 hx.2.2.2) hb181 ?_ (ha := by simp (disch := first|omega|(simp only[ln];omega)) [idf_Wd', W4.v])
   refine .k 1 (fun fs7 hfs7 => ?_) (by simp (disch := first|omega|(simp only[ln];omega)) [runDf.eq_def, runF1, runF2, stepF.eq_def, updo.eq_def, hupo.eq_def, opSto1.eq_def, List.take_succ_cons, List.take_zero, W4.v]; rfl)
   refine .f (l1From_fc y.a y.b y.c y.d hy.1 hy.2.1 hy.2.2.1 hy.2.2.2) hb181 ?_ (ha := by simp (disch := first|omega|(simp only[ln];omega)) [idf_Wd', W4.v])
   refine .k 1 (fun fs8 hfs8 => ?_) (by simp (disch := first|omega|(simp only[ln];omega)) [runDf.eq_def, runF1, runF2, stepF.eq_def, updo.eq_def, hupo.eq_def, opSto1.eq_def, List.take_succ_cons, List.take_zero, W4.v]; rfl)
   refine .f (l1From_fc w.a w.b w.c w.d hw.1 hw.2.1 hw.2.2.1 hw.2.2.2) hb181 ?_ (ha := by simp (disch := first|omega|(simp only[ln];omega)) [idf_Wd', W4.v])
   refine .f (l3Make_fc x.v y.v w.v hne bX bY bW (by omega) (by omega)) hb193 ?_ (ha := by simp (disch := first|omega|(simp only[ln];omega)) [idf_Wd', W4.v])
   refine .f (l3Point_fc (nrm w.v x.v / gcd3 x.v y.v w.v) (nrm w.v y.v / gcd3 x.v y.v w.v) (nrm w.v w.v / gcd3 x.v y.v w.v) (bX.nrm.div hgp) (bY.nrm.div hgp) (bW.nrm.div hgp) (by omega)) hb135 ?_ (ha := by simp (disch := first|omega|(simp only[ln];omega)) [idf_Wd', W4.v])
   refine .k 2 (fun fs9 hfs9 => ?_) (by simp (disch := first|omega|(simp only[ln];omega)) [runDf.eq_def, runF1, runF2, stepF.eq_def, updo.eq_def, hupo.eq_def, opSto1.eq_def, List.take_succ_cons, List.take_zero, W4.v]; rfl)
   refine .r 10 (by simp only[ln, hfs6, hfs7, hfs8, hfs9];omega) ?_ (by simp (disch := first|omega|(simp only[ln];omega)) [runDf.eq_def, runF1, runF2, stepF.eq_def, updo.eq_def, hupo.eq_def, opSto1.eq_def, W4.v]; rfl)
   refine hK5 _ ?_
   refine .ret ?_
   exact hK _ _ _ _ trivial ((Fin.m).cast (by rw [mkP, mkB, if_neg hne, if_neg hne]; rfl))
end

end Go.Proofs.YtaibemhdfhchfaaGreat

/- Walks: drawn numbers. -/
namespace Go.Proofs.YtaibemhdfhchfaaGreat
open Go Go.RowKit
set_option linter.unusedSimpArgs false
set_option linter.unusedVariables false
set_option maxRecDepth 100000
attribute [local simp] szT3 byT3 agT3 unT3 zoT3 szT5 byT5 agT5 unT5 zoT5 szT22 byT22 agT22 elT22 unT22 zoT22 szT25 byT25 agT25 unT25 zoT25 szT196 byT196 agT196 flT196 fdT196_0 fdT196_1 zoT196

set_option maxHeartbeats 1000000 in
theorem next_ac (l : List Int) (p id : Nat) (H : Heap) (nx : Nat) (dl : Dig 256 l) (hl : l.length ≤ 1048576) (hp : p ≤ l.length) (hH : H id = some (2, [[Wd .u8 l, .int .i64 (p : Int)]])) (hd : ∀ i q, H i = some q → i < nx) : ACall Tryz.prog 185 [.ptr id 0 0] H nx (fun r H' nx' => (∃ n : Int, r = .int .i64 n ∧ 0 ≤ n ∧ n ≤ 255) ∧ (∃ p' : Nat, p' ≤ l.length ∧ H' = hupd H id (some (2, [[Wd .u8 l, .int .i64 (p' : Int)]]))) ∧ nx ≤ nx') := by
 refine .b Tryz.func185 32 fun K hK => ?_
 refine .q ?_
 refine .sq fun K2 hK2 => ?_
 refine .sq fun K3 hK3 => ?_
 refine .df 10 ?_ (by simp (disch := first|omega|(simp only[ln];omega)) [runDf.eq_def, runF1, runF2, stepF.eq_def, updo.eq_def, hupo.eq_def, opSto1.eq_def, len_Wd (P := Tryz.prog) #[22] rfl elT22, hH]; rfl)
 refine hK3 _ ?_
 refine .c (fun h12 => ?_) (fun h12 => ?_)
 ·try simp only[dc]at h12
  refine .q ?_
  refine .ret ?_
  exact hK _ _ _ _ _ trivial (Fin.m) (⟨⟨0, rfl, by omega, by omega⟩, ⟨p, hp, (hupd_id hH).symm⟩, by simp⟩)
 ·try simp only[dc]at h12
  have hlt : p < l.length := by omega
  have gl := dl.gt (by omega) p
  have ep : ((p : Int) + 1 - 1).toNat = p := by omega
  have ep2 : (p : Int) + 1 - 1 = p := by omega
  refine .skip ?_
  refine hK2 _ ?_
  refine .q ?_ (by simp (disch := first|omega|(simp only[ln];omega)) [hH]; rfl)
  refine .sq fun K6 hK6 => ?_
  refine .df 12 ?_ (by simp (disch := first|omega|(simp only[ln];omega)) [runDf.eq_def, runF1, runF2, stepF.eq_def, updo.eq_def, hupo.eq_def, opSto1.eq_def, idx_WdD (P := Tryz.prog) elT22 szT5, if_pos, hH, ep, ep2, ld_ip agT5]; rfl)
  refine hK6 _ ?_
  refine .ret ?_
  exact hK _ _ _ _ _ trivial (Fin.m) (⟨⟨gt l p, rfl, by omega, by omega⟩, ⟨p + 1, by omega, by simp⟩, by simp; omega⟩)
set_option maxHeartbeats 1000000 in
theorem below_ac (n : Int) (hn0 : 1 < n) (hn1 : n ≤ 65536) (l : List Int) (p id : Nat) (H : Heap) (nx : Nat) (dl : Dig 256 l) (hl : l.length ≤ 1048576) (hp : p ≤ l.length) (hH : H id = some (2, [[Wd .u8 l, .int .i64 (p : Int)]])) (hd : ∀ i q, H i = some q → i < nx) : ACall Tryz.prog 100 [.ptr id 0 0, .int .i64 n] H nx (fun r H' nx' => (∃ k : Int, r = .int .i64 k ∧ 0 ≤ k ∧ k < n) ∧ (∃ p' : Nat, p' ≤ l.length ∧ H' = hupd H id (some (2, [[Wd .u8 l, .int .i64 (p' : Int)]]))) ∧ nx ≤ nx') := by
 have hnz : n ≠ 0 := by omega
 have tm : ∀ a : Int, 0 ≤ a → a.tmod n = a % n := fun a h => Int.tmod_eq_emod_of_nonneg h
 have em0 : ∀ a : Int, 0 ≤ a % n := fun a => Int.emod_nonneg a hnz
 have em1 : ∀ a : Int, a % n < n := fun a => Int.emod_lt_of_pos a (by omega)
 refine .b Tryz.func100 24 fun K hK => ?_
 refine .q ?_
 refine .sq fun K2 hK2 => ?_
 refine .q ?_
 refine .c (fun h7 => ?_) (fun h7 => ?_)
 ·simp at h7; omega
 ·try simp only[dc]at h7
  refine .skip ?_
  refine hK2 _ ?_
  refine .sq fun K4 hK4 => ?_
  refine .q ?_
  refine .c (fun h9 => ?_) (fun h9 => ?_)
  ·try simp only[dc]at h9
   refine .sq fun K6 hK6 => ?_
   refine .region ?_
   refine .k 1 ?_ (by simp (disch := first|omega|(simp only[ln];omega)) [List.take_succ_cons, List.take_zero, hnz]; rfl)
   refine AOPS.old fun hold1 => ?_
   refine .a (next_ac l p id _ _ dl hl hp (by simp [hH]) hold1) hb185 ?_ (ha := by simp (disch := first|omega|(simp only[ln];omega)) [idf_Wd', hnz])
   rintro _ _ nx2 ⟨⟨m, rfl, m0, m1⟩, ⟨p2, hp2, rfl⟩, hnx2⟩
   try simp only [] at hnx2
   refine .e ?_ (by simp (disch := first|omega|(simp only[ln];omega)) [hnz]; rfl)
   refine hK6 _ ?_
   refine .ret ?_
   exact hK _ _ _ _ _ trivial (Fin.mk (r := .int .i64 (m.tmod n)) (by simp [aRes, aResL, aRes1])) (⟨⟨_, rfl, by rw [tm m m0]; exact em0 _, by rw [tm m m0]; exact em1 _⟩, ⟨p2, hp2, by simp [hupd_same]⟩, by first | exact hnx2 | (simp at *; omega)⟩)
  ·try simp only[dc]at h9
   refine .skip ?_
   refine hK4 _ ?_
   refine .sq fun K7 hK7 => ?_
   refine .region ?_
   refine .k 1 ?_
   refine AOPS.old fun hold1 => ?_
   refine .a (next_ac l p id _ _ dl hl hp (by simp [hH]) hold1) hb185 ?_
   rintro _ _ nx2 ⟨⟨m, rfl, m0, m1⟩, ⟨p2, hp2, rfl⟩, hnx2⟩
   try simp only [] at hnx2
   refine .e ?_
   refine hK7 _ ?_
   refine .sq fun K8 hK8 => ?_
   refine .region ?_
   refine .k 2 ?_
   refine AOPS.old fun hold2 => ?_
   refine .a (next_ac l p2 id _ _ dl hl hp2 (by simp [hH]) hold2) hb185 ?_
   rintro _ _ nx3 ⟨⟨m2, rfl, m20, m21⟩, ⟨p3, hp3, rfl⟩, hnx3⟩
   try simp only [] at hnx3
   refine .e ?_
   refine hK8 _ ?_
   refine .q ?_ (by simp (disch := first|omega|(simp only[ln];omega)) [hnz]; rfl)
   refine .ret ?_
   exact hK _ _ _ _ _ trivial (Fin.mk (r := .int .i64 ((m * 256 + m2).tmod n)) (by simp [aRes, aResL, aRes1])) (⟨⟨_, rfl, by rw [tm _ (by omega)]; exact em0 _, by rw [tm _ (by omega)]; exact em1 _⟩, ⟨p3, hp3, by simp [hupd_same]⟩, by first | exact Nat.le_trans hnx2 hnx3 | (simp at *; omega)⟩)
set_option maxHeartbeats 1000000 in
theorem once_ac (n : Int) (hn0 : 1 < n) (hn1 : n ≤ 65536) (l : List Int) (p id : Nat) (H : Heap) (nx : Nat) (dl : Dig 256 l) (hl : l.length ≤ 1048576) (hp : p ≤ l.length) (hH : H id = some (2, [[Wd .u8 l, .int .i64 (p : Int)]])) (hd : ∀ i q, H i = some q → i < nx) : ACall Tryz.prog 98 [.ptr id 0 0, .int .i64 n] H nx (fun r H' nx' => (∃ b : Bool, r = .bool b) ∧ (∃ p' : Nat, p' ≤ l.length ∧ H' = hupd H id (some (2, [[Wd .u8 l, .int .i64 (p' : Int)]]))) ∧ nx ≤ nx') := by
 refine .b Tryz.func98 11 fun K hK => ?_
 refine .q ?_
 refine .sq fun K2 hK2 => ?_
 refine .region ?_
 refine .k 2 ?_
 refine AOPS.old fun hold2 => ?_
 refine .a (below_ac n hn0 hn1 l p id _ _ dl hl hp (by simp [hH]) hold2) hb100 ?_
 rintro _ _ nx2 ⟨⟨k, rfl, k0, k1⟩, ⟨p2, hp2, rfl⟩, hnx2⟩
 try simp only [] at hnx2
 refine .e ?_
 refine hK2 _ ?_
 refine .ret ?_
 exact hK _ _ _ _ _ trivial (Fin.mk (r := .bool (k == n - 1)) (by simp [aRes, aResL, aRes1])) (⟨⟨_, rfl⟩, ⟨p2, hp2, by simp [hupd_same]⟩, by first | exact hnx2 | (simp at *; omega)⟩)
set_option maxHeartbeats 1000000 in
theorem word_ac (l : List Int) (p id : Nat) (H : Heap) (nx : Nat) (dl : Dig 256 l) (hl : l.length ≤ 1048576) (hp : p ≤ l.length) (hH : H id = some (2, [[Wd .u8 l, .int .i64 (p : Int)]])) (hd : ∀ i q, H i = some q → i < nx) : ACall Tryz.prog 161 [.ptr id 0 0] H nx (fun r H' nx' => (∃ n : Int, r = .int .u64 n ∧ U64 n) ∧ (∃ p' : Nat, p' ≤ l.length ∧ H' = hupd H id (some (2, [[Wd .u8 l, .int .i64 (p' : Int)]]))) ∧ nx ≤ nx') := by
 refine .b Tryz.func161 16 fun K hK => ?_
 refine .q ?_
 refine .q ?_
 refine .sq fun K3 hK3 => ?_
 refine .q ?_
 refine .block ?_
 refine .loop (fun N s => ∃ (i p' : Nat) (x : Int), N = 8 - i ∧ i ≤ 8 ∧ p' ≤ l.length ∧ U64 x ∧ s.env 0 = .ptr id 0 0 ∧ s.env 3 = .int .u64 x ∧ s.env 4 = .int .i64 (i : Int) ∧ s.heap = hupd H id (some (2, [[Wd .u8 l, .int .i64 (p' : Int)]])) ∧ nx ≤ s.nx ∧ s.nt = 16) (8) (⟨0, p, 0, by omega, by omega, hp, by unfold U64; omega, by simp, by simp, by simp, by simp [hupd_id hH], by simp, rfl⟩) ?_
 rintro N ⟨e, HH, mm, nt⟩ ⟨i, q, x, rfl, hi, hq, hx, h0, h3, h4, rfl, hm, rfl⟩
 simp only [] at h0 h3 h4 hm
 refine .sq fun K5 hK5 => ?_
 refine .q ?_ (by simp (disch := first|omega|(simp only[ln];omega)) [h4]; rfl)
 refine .c (fun h6 => ?_) (fun h6 => ?_)
 ·try simp only[dc]at h6
  have hi' : i < 8 := by omega
  refine .skip ?_
  refine hK5 _ ?_
  refine .sq fun K7 hK7 => ?_
  refine .block ?_
  refine .region ?_
  refine .k 3 ?_ (by simp (disch := first|omega|(simp only[ln];omega)) [List.take_succ_cons, List.take_zero, h0, h3, IntKind.bits]; rfl)
  refine AOPS.old fun hold3 => ?_
  refine .a (next_ac l q id _ _ dl hl hq (by simp) hold3) hb185 ?_ (ha := by simp (disch := first|omega|(simp only[ln];omega)) [idf_Wd', h0, h3, IntKind.bits])
  rintro _ _ nx2 ⟨⟨m, rfl, m0, m1⟩, ⟨p2, hp2, rfl⟩, hnx2⟩
  try simp only [] at hnx2
  have ox := or_u64 (wrap_U64 (x * 2 ^ 8)) (show U64 m by unfold U64; omega)
  try simp only [] at ox
  refine .e ?_ (by simp (disch := first|omega|(simp only[ln];omega)) [h0, h3, IntKind.bits]; rfl)
  refine hK7 _ ?_
  refine .r ?_ (by simp (disch := first|omega|(simp only[ln];omega)) [h4]; rfl)
  refine ⟨8 - (i + 1), by omega, i + 1, p2, _, rfl, by omega, hp2, ox, by simp [h0], by simp [IntKind.bits], by simp (disch := omega) [h4], by simp [hupd_same], by simp at *; omega, rfl⟩
 ·try simp only[dc]at h6
  refine .exit ?_
  refine hK3 _ ?_
  refine .q ?_ (by simp (disch := first|omega|(simp only[ln];omega)) [h3]; rfl)
  refine .ret ?_
  exact hK _ _ _ _ _ trivial (Fin.mk (r := .int .u64 x) (by simp [aRes, aResL, aRes1])) (⟨⟨x, rfl, hx⟩, ⟨q, hq, rfl⟩, hm⟩)

end Go.Proofs.YtaibemhdfhchfaaGreat

/- Walks: drawn numbers near others; drawn spots. -/
namespace Go.Proofs.YtaibemhdfhchfaaGreat
open Go Go.RowKit
set_option linter.unusedSimpArgs false
set_option linter.unusedVariables false
set_option maxRecDepth 100000
attribute [local simp] szT2 byT2 agT2 unT2 zoT2 szT3 byT3 agT3 unT3 zoT3 szT25 byT25 agT25 unT25 zoT25 szT38 byT38 agT38 flT38 fdT38_0 fdT38_1 zoT38

set_option maxHeartbeats 1000000 in
theorem near_ac (a b : Int) (ha : -1152921504606846976 ≤ a) (hab : a ≤ b) (hb : b ≤ 1152921504606846976) (l : List Int) (p id : Nat) (H : Heap) (nx : Nat) (dl : Dig 256 l) (hl : l.length ≤ 1048576) (hp : p ≤ l.length) (hH : H id = some (2, [[Wd .u8 l, .int .i64 (p : Int)]])) (hd : ∀ i q, H i = some q → i < nx) : ACall Tryz.prog 162 [.ptr id 0 0, .int .i64 a, .int .i64 b] H nx (fun r H' nx' => (∃ k : Int, r = .int .i64 k ∧ a ≤ k ∧ k ≤ b) ∧ (∃ p' : Nat, p' ≤ l.length ∧ H' = hupd H id (some (2, [[Wd .u8 l, .int .i64 (p' : Int)]]))) ∧ nx ≤ nx') := by
 have hid := hd id _ hH
 refine .b Tryz.func162 31 fun K hK => ?_
 refine .q ?_
 refine .sq fun K2 hK2 => ?_
 refine .sq fun K3 hK3 => ?_
 refine .region ?_
 refine .k 1 ?_
 refine AOPS.old fun hold1 => ?_
 refine .a (below_ac 8 (by omega) (by omega) l p id _ _ dl hl hp (by simp [hH]) hold1) hb100 ?_
 rintro _ _ nx2 ⟨⟨k, rfl, k0, k1⟩, ⟨p2, hp2, rfl⟩, hnx2⟩
 try simp only [] at hnx2
 refine .nil ?_
 refine hK3 _ ?_
 refine .block ?_
 refine .q ?_
 refine .c (fun h9 => ?_) (fun h9 => ?_)
 ·try simp only[dc]at h9
  refine .q ?_
  refine .ret ?_
  exact hK _ _ _ _ _ trivial (Fin.mk (r := .int .i64 a) (by simp [aRes, aResL, aRes1])) (⟨⟨_, rfl, by omega, by omega⟩, ⟨p2, hp2, by simp [hupd_same]⟩, by first | exact hnx2 | (simp at *; omega)⟩)
 ·try simp only[dc]at h9
  refine .q ?_
  refine .c (fun h12 => ?_) (fun h12 => ?_)
  ·try simp only[dc]at h12
   refine .q ?_
   refine .ret ?_
   exact hK _ _ _ _ _ trivial (Fin.mk (r := .int .i64 b) (by simp [aRes, aResL, aRes1])) (⟨⟨_, rfl, by omega, by omega⟩, ⟨p2, hp2, by simp [hupd_same]⟩, by first | exact hnx2 | (simp at *; omega)⟩)
  ·try simp only[dc]at h12
   refine .skip ?_
   refine hK2 _ ?_
   refine .sq fun K8 hK8 => ?_
   refine .q ?_
   refine .c (fun h17 => ?_) (fun h17 => ?_)
   ·simp at h17; omega
   ·try simp only[dc]at h17
    refine .skip ?_
    refine hK8 _ ?_
    refine .sq fun K10 hK10 => ?_
    have hdz : b - a + 1 ≠ 0 := by omega
    have cw : IntKind.u64.wrap (b - a + 1) = b - a + 1 := wrap_u64s (by omega) (by omega)
    have tmw : ∀ w : Int, 0 ≤ w → (w / 2).tmod (b - a + 1) = w / 2 % (b - a + 1) := fun w h => Int.tmod_eq_emod_of_nonneg (by omega)
    have sw : ∀ w : Int, 0 ≤ w → IntKind.i64.wrap (w / 2 % (b - a + 1)) = w / 2 % (b - a + 1) := fun w h => by
      have e0 := Int.emod_nonneg (w / 2) hdz
      have e1 := Int.emod_lt_of_pos (w / 2) (show 0 < b - a + 1 by omega)
      exact wrap_i64s (by omega) (by omega)
    refine .region ?_
    refine .k 2 ?_ (by simp (disch := first|omega|(simp only[ln];omega)) [List.take_succ_cons, List.take_zero, IntKind.bits, Int.fdiv_eq_ediv_of_nonneg, hdz, tmw, cw, sw]; rfl)
    refine AOPS.old fun hold2 => ?_
    refine .a (word_ac l p2 id _ _ dl hl hp2 (by simp) hold2) hb161 ?_ (ha := by simp (disch := first|omega|(simp only[ln];omega)) [idf_Wd', IntKind.bits, Int.fdiv_eq_ediv_of_nonneg, hdz, tmw, cw, sw])
    rintro _ _ nx3 ⟨⟨w, rfl, hw0, hw1⟩, ⟨p3, hp3, rfl⟩, hnx3⟩
    have e0 := Int.emod_nonneg (w / 2) hdz
    have e1 := Int.emod_lt_of_pos (w / 2) (show 0 < b - a + 1 by omega)
    try simp only [] at hnx3
    refine .e ?_ (by simp (disch := first|omega|(simp only[ln];omega)) [IntKind.bits, Int.fdiv_eq_ediv_of_nonneg, hdz, tmw, cw, sw]; rfl)
    refine hK10 _ ?_
    refine .ret ?_
    exact hK _ _ _ _ _ trivial (Fin.mk (r := .int .i64 (a + w / 2 % (b - a + 1))) (by simp [aRes, aResL, aRes1])) (⟨⟨_, rfl, by omega, by omega⟩, ⟨p3, hp3, by simp [hupd_same]⟩, by first | exact Nat.le_trans hnx2 hnx3 | (simp at *; omega)⟩)
set_option maxHeartbeats 1000000 in
theorem spot_ac (l : List Int) (p id : Nat) (H : Heap) (nx : Nat) (dl : Dig 256 l) (hl : l.length ≤ 1048576) (hp : p ≤ l.length) (hH : H id = some (2, [[Wd .u8 l, .int .i64 (p : Int)]])) (hd : ∀ i q, H i = some q → i < nx) : ACall Tryz.prog 155 [.ptr id 0 0] H nx (fun r H' nx' => (∃ x y : Int, r = .agg [.int .i64 x, .int .i64 y] ∧ -6 ≤ x ∧ x ≤ 6 ∧ -6 ≤ y ∧ y ≤ 6) ∧ (∃ p' : Nat, p' ≤ l.length ∧ H' = hupd H id (some (2, [[Wd .u8 l, .int .i64 (p' : Int)]]))) ∧ nx ≤ nx') := by
 have hid := hd id _ hH
 refine .b Tryz.func155 8 fun K hK => ?_
 refine .q ?_
 refine .sq fun K2 hK2 => ?_
 refine .region ?_
 refine .k 1 ?_ (by simp (disch := first|omega|(simp only[ln];omega)) [List.take_succ_cons, List.take_zero, hH]; rfl)
 refine AOPS.old fun hold1 => ?_
 refine .a (near_ac (-6) (6) (by omega) (by omega) (by omega) l p id _ _ dl hl hp (by simp (disch := omega) [hH]) hold1) hb162 ?_ (ha := by simp (disch := first|omega|(simp only[ln];omega)) [idf_Wd', hH])
 rintro _ _ nx2 ⟨⟨x, rfl, x0, x1⟩, ⟨p2, hp2, rfl⟩, hnx2⟩
 try simp only [] at hnx2
 refine .k 1 ?_ (by simp (disch := first|omega|(simp only[ln];omega)) [List.take_succ_cons, List.take_zero, hH]; rfl)
 refine AOPS.old fun hold3 => ?_
 refine .a (near_ac (-6) (6) (by omega) (by omega) (by omega) l p2 id _ _ dl hl hp2 (by simp (disch := omega) [hH]) hold3) hb162 ?_ (ha := by simp (disch := first|omega|(simp only[ln];omega)) [idf_Wd', hH])
 rintro _ _ nx3 ⟨⟨y, rfl, y0, y1⟩, ⟨p3, hp3, rfl⟩, hnx3⟩
 try simp only [] at hnx3
 refine .e ?_ (by simp (disch := first|omega|(simp only[ln];omega)) [hH]; rfl)
 refine hK2 _ ?_
 refine .ret ?_
 exact hK _ _ _ _ _ trivial ((Fin.mk (r := .agg [.int .i64 x, .int .i64 y]) (by simp (disch := omega) [aRes, aResL, aRes1])).restr (fun i => decide (i < nx))) (⟨⟨x, y, rfl, x0, x1, y0, y1⟩, ⟨p3, hp3, by simp (disch := first | omega | (simp; done) | (simp; omega)) [hrestr_in, hrestr_out, hrestr_all hd, hupd_same]⟩, by first | omega | (simp at *; omega)⟩)

end Go.Proofs.YtaibemhdfhchfaaGreat

/- Walks: drawn numbers in four words. -/
namespace Go.Proofs.YtaibemhdfhchfaaGreat
open Go Go.RowKit
set_option linter.unusedSimpArgs false
set_option linter.unusedVariables false
set_option maxRecDepth 100000
attribute [local simp] szT2 byT2 agT2 unT2 zoT2 szT3 byT3 agT3 unT3 zoT3 szT25 byT25 agT25 unT25 zoT25 szT27 byT27 agT27 flT27 fdT27_0 fdT27_1 fdT27_2 fdT27_3 zoT27 szT32 byT32 agT32 elT32 unT32 zoT32 szT125 byT125 agT125 elT125 unT125 zoT125 szT204 byT204 agT204 unT204 zoT204 szT268 byT268 agT268 elT268 unT268 zoT268 szT271 byT271 agT271 unT271 zoT271

section
attribute [local simp] idf_numS cells_numS numS_fold
set_option maxHeartbeats 4000000 in
theorem wide_ac (l : List Int) (p id : Nat) (H : Heap) (nx : Nat) (dl : Dig 256 l) (hl : l.length ≤ 1048576) (hp : p ≤ l.length) (hH : H id = some (2, [[Wd .u8 l, .int .i64 (p : Int)]])) (hd : ∀ i q, H i = some q → i < nx) : ACall Tryz.prog 159 [.ptr id 0 0] H nx (fun r H' nx' => (∃ x : W4, r = .agg [.int .u64 (x).a, .int .u64 (x).b, .int .u64 (x).c, .int .u64 (x).d] ∧ x.ok) ∧ (∃ p' : Nat, p' ≤ l.length ∧ H' = hupd H id (some (2, [[Wd .u8 l, .int .i64 (p' : Int)]]))) ∧ nx ≤ nx') := by
 have hid := hd id _ hH
 have t7l : tab7.length = 7 := rfl
 have hTl : (tab6.map W4.l).length = 6 := rfl
 obtain ⟨T, hT0⟩ : ∃ T, List.map W4.l tab6 = T := ⟨_, rfl⟩
 have hTx := gt6_get
 rw [hT0] at hTl hTx
 have hTy : ∀ (k : Nat) (h : k < T.length), T[k] = [.int .u64 (gt6 k).a, .int .u64 (gt6 k).b, .int .u64 (gt6 k).c, .int .u64 (gt6 k).d] := fun k h => by
   have := hTx k (by omega)
   rw [List.getElem?_eq_getElem h] at this
   simpa using this
 clear hTx
 refine .b Tryz.func159 85 fun K hK => ?_
 refine .q ?_
 refine .sq fun K2 hK2 => ?_
 refine .sq fun K3 hK3 => ?_
 refine .region ?_
 refine .k 1 ?_ (by simp (disch := first|omega|(simp only[ln];omega)) [List.take_succ_cons, List.take_zero, hH]; rfl)
 refine AOPS.old fun hold1 => ?_
 refine .a (below_ac 9 (by omega) (by omega) l p id _ _ dl hl hp (by simp (disch := omega) [hH]) hold1) hb100 ?_ (ha := by simp (disch := first|omega|(simp only[ln];omega)) [idf_Wd', hH])
 rintro _ _ nx2 ⟨⟨k, rfl, k0, k1⟩, ⟨p2, hp2, rfl⟩, hnx2⟩
 try simp only [] at hnx2
 clear hold1
 refine .nil ?_
 refine hK3 _ ?_
 refine .block ?_
 refine .q ?_
 refine .c (t := k == 0) (fun h9 => ?_) (fun h9 => ?_)
 ·try simp only[dc]at h9
  refine .sq fun K5 hK5 => ?_
  refine .region ?_
  refine .k 2 ?_ (by simp (disch := first|omega|(simp only[ln];omega)) [List.take_succ_cons, List.take_zero, idx_WdD (P := Tryz.prog) elT32 szT2, if_pos, t7l]; rfl)
  refine AOPS.frz1 11 nx2 1 (wd .i64 tab7) (Wd .i64 tab7) (by simp; rfl) (by simp; first | exact fz_wd rfl | exact isl_take_wd (by decide)) ?_
  refine AOPS.old fun hold2 => ?_
  refine .a (below_ac 7 (by omega) (by omega) l p2 id _ _ dl hl hp2 (by simp (disch := omega) [hH]) hold2) hb100 ?_ (ha := by simp (disch := first|omega|(simp only[ln];omega)) [idf_Wd', idx_WdD (P := Tryz.prog) elT32 szT2, if_pos, t7l])
  rintro _ _ nx3 ⟨⟨k7, rfl, k70, k71⟩, ⟨p3, hp3, rfl⟩, hnx3⟩
  try simp only [] at hnx3
  clear hold2
  have hk7 : k7.toNat < 7 := by omega
  refine .kf 2 (wideOfS_fc (gt tab7 k7.toNat) (tab7_b _).1 (tab7_b _).2) hb160 ?_ (by simp (disch := first|omega|(simp only[ln];omega)) [List.take_succ_cons, List.take_zero, idx_WdD (P := Tryz.prog) elT32 szT2, if_pos, t7l]; rfl) (ha := by simp (disch := first|omega|(simp only[ln];omega)) [idf_Wd', idx_WdD (P := Tryz.prog) elT32 szT2, if_pos, t7l])
  refine .e ?_ (by simp (disch := first|omega|(simp only[ln];omega)) [idx_WdD (P := Tryz.prog) elT32 szT2, if_pos, t7l]; rfl)
  refine hK5 _ ?_
  refine .ret ?_
  exact hK _ _ _ _ _ trivial ((Fin.mk (r := .agg [.int .u64 (W4z (gt tab7 k7.toNat)).a, .int .u64 (W4z (gt tab7 k7.toNat)).b, .int .u64 (W4z (gt tab7 k7.toNat)).c, .int .u64 (W4z (gt tab7 k7.toNat)).d]) (by simp (disch := omega) [aRes, aResL, aRes1])).restr (fun i => decide (i < nx))) (⟨⟨W4z (gt tab7 k7.toNat), rfl, W4z_ok _⟩, ⟨p3, hp3, by simp (disch := first | omega | (simp; done) | (simp; omega)) [hrestr_in, hrestr_out, hrestr_all hd, hupd_same]⟩, by first | omega | (simp at *; omega)⟩)
 ·try simp only[dc]at h9
  refine .q ?_
  refine .c (t := k == 1) (fun h17 => ?_) (fun h17 => ?_)
  ·try simp only[dc]at h17
   refine .sq fun K7 hK7 => ?_
   refine .region ?_
   refine .k 8 ?_ (by simp (disch := first|omega|(simp only[ln];omega)) [List.take_succ_cons, List.take_zero, if_pos, hTl, hTy]; rfl)
   refine AOPS.frz1 25 nx2 4 T (.isl T) (by simp [← hT0, tab6, W4.l]) (by simp; rw [← hT0]; exact fz_fill W4.l tab6 rfl) ?_
   refine AOPS.old fun hold8 => ?_
   refine .a (below_ac 6 (by omega) (by omega) l p2 id _ _ dl hl hp2 (by simp (disch := omega) [hH]) hold8) hb100 ?_ (ha := by simp (disch := first|omega|(simp only[ln];omega)) [idf_Wd', if_pos, hTl, hTy])
   rintro _ _ nx3 ⟨⟨k6, rfl, k60, k61⟩, ⟨p3, hp3, rfl⟩, hnx3⟩
   try simp only [] at hnx3
   clear hold8
   have hk6 : k6.toNat < 6 := by omega
   refine .e ?_ (by simp (disch := first|omega|(simp only[ln];omega)) [if_pos, hTl, hTy]; rfl)
   refine hK7 _ ?_
   refine .ret ?_
   exact hK _ _ _ _ _ trivial ((Fin.mk (r := .agg [.int .u64 (gt6 k6.toNat).a, .int .u64 (gt6 k6.toNat).b, .int .u64 (gt6 k6.toNat).c, .int .u64 (gt6 k6.toNat).d]) (by simp (disch := omega) [aRes, aResL, aRes1])).restr (fun i => decide (i < nx))) (⟨⟨gt6 k6.toNat, rfl, gt6_ok _⟩, ⟨p3, hp3, by simp (disch := first | omega | (simp; done) | (simp; omega)) [hrestr_in, hrestr_out, hrestr_all hd, hupd_same]⟩, by first | omega | (simp at *; omega)⟩)
  ·try simp only[dc]at h17
   refine .q ?_
   refine .c (t := k == 2) (fun h30 => ?_) (fun h30 => ?_)
   ·try simp only[dc]at h30
    refine .sq fun K9 hK9 => ?_
    refine .region ?_
    refine .k 1 ?_
    refine AOPS.old fun hold1 => ?_
    refine .a (once_ac 2 (by omega) (by omega) l p2 id _ _ dl hl hp2 (by simp (disch := omega) [hH]) hold1) hb98 ?_
    rintro _ _ nx3 ⟨⟨b, rfl⟩, ⟨p3, hp3, rfl⟩, hnx3⟩
    try simp only [] at hnx3
    clear hold1
    refine .k 2 ?_
    refine AOPS.frz1 35 nx3 1 (wd .u32 [1]) (Wd .u32 [1]) (by simp) (by simp; first | exact fz_wd rfl | exact isl_take_wd (by simp)) ?_
    refine AOPS.old fun hold4 => ?_
    refine .a (below_ac 255 (by omega) (by omega) l p3 id _ _ dl hl hp3 (by simp (disch := omega) [hH]) hold4) hb100 ?_
    rintro _ _ nx4 ⟨⟨k8, rfl, k80, k81⟩, ⟨p4, hp4, rfl⟩, hnx4⟩
    try simp only [] at hnx4
    clear hold4
    obtain ⟨K8, rfl⟩ := Int.eq_ofNat_of_zero_le k80
    have hL := l1LeftI 1 K8 (by omega) (by rw [show ((1 : Nat) : Int) = 1 from rfl, dg_one]; simp)
    rw [show ((1 : Nat) : Int) = 1 from rfl, dg_one] at hL
    have bP := bg_pow K8 (by omega) b
    have bP0 := bg_pow K8 (by omega) false
    have hT := l1Trim_fc b (dg ((1 * 2 ^ K8 : Nat) : Int)) (by have := bP0.len32; rw [sg_false] at this; omega) (dg_dig _)
    rw [dg_val, Int.natAbs_natCast] at hT
    have hWd := l1Wide_fc bP (by omega)
    rw [wdT_l] at hWd
    unfold W4.l at hWd
    refine .f hL hb236 ?_
    refine .f hT hb235 ?_
    refine .f hWd hb211 ?_
    refine .e ?_
    refine hK9 _ ?_
    refine .q ?_
    refine .ret ?_
    exact hK _ _ _ _ _ trivial ((Fin.mk (r := .agg [.int .u64 (W4z (sg b ((1 * 2 ^ K8 : Nat) : Int))).a, .int .u64 (W4z (sg b ((1 * 2 ^ K8 : Nat) : Int))).b, .int .u64 (W4z (sg b ((1 * 2 ^ K8 : Nat) : Int))).c, .int .u64 (W4z (sg b ((1 * 2 ^ K8 : Nat) : Int))).d]) (by simp (disch := omega) [aRes, aResL, aRes1])).restr (fun i => decide (i < nx))) (⟨⟨W4z (sg b ((1 * 2 ^ K8 : Nat) : Int)), rfl, W4z_ok _⟩, ⟨p4, hp4, by simp (disch := first | omega | (simp; done) | (simp; omega)) [hrestr_in, hrestr_out, hrestr_all hd, hupd_same]⟩, by first | omega | (simp at *; omega)⟩)
   ·try simp only[dc]at h30
    refine .q ?_
    refine .c (t := k == 3) (fun h44 => ?_) (fun h44 => ?_)
    ·try simp only[dc]at h44
     refine .sq fun K12 hK12 => ?_
     refine .region ?_
     refine .k 1 ?_
     refine AOPS.old fun hold1 => ?_
     refine .a (word_ac l p2 id _ _ dl hl hp2 (by simp (disch := omega) [hH]) hold1) hb161 ?_
     rintro _ _ nx3 ⟨⟨wa, rfl, wau⟩, ⟨p3, hp3, rfl⟩, hnx3⟩
     try simp only [] at hnx3
     clear hold1
     refine .k 1 ?_
     refine AOPS.old fun hold3 => ?_
     refine .a (word_ac l p3 id _ _ dl hl hp3 (by simp (disch := omega) [hH]) hold3) hb161 ?_
     rintro _ _ nx4 ⟨⟨wb, rfl, wbu⟩, ⟨p4, hp4, rfl⟩, hnx4⟩
     try simp only [] at hnx4
     clear hold3
     refine .k 1 ?_
     refine AOPS.old fun hold5 => ?_
     refine .a (word_ac l p4 id _ _ dl hl hp4 (by simp (disch := omega) [hH]) hold5) hb161 ?_
     rintro _ _ nx5 ⟨⟨wc, rfl, wcu⟩, ⟨p5, hp5, rfl⟩, hnx5⟩
     try simp only [] at hnx5
     clear hold5
     refine .k 1 ?_
     refine AOPS.old fun hold7 => ?_
     refine .a (word_ac l p5 id _ _ dl hl hp5 (by simp (disch := omega) [hH]) hold7) hb161 ?_
     rintro _ _ nx6 ⟨⟨wd, rfl, wdu⟩, ⟨p6, hp6, rfl⟩, hnx6⟩
     try simp only [] at hnx6
     clear hold7
     refine .e ?_
     refine hK12 _ ?_
     refine .ret ?_
     exact hK _ _ _ _ _ trivial ((Fin.mk (r := .agg [.int .u64 (⟨wa, wb, wc, wd⟩ : W4).a, .int .u64 (⟨wa, wb, wc, wd⟩ : W4).b, .int .u64 (⟨wa, wb, wc, wd⟩ : W4).c, .int .u64 (⟨wa, wb, wc, wd⟩ : W4).d]) (by simp (disch := omega) [aRes, aResL, aRes1])).restr (fun i => decide (i < nx))) (⟨⟨⟨wa, wb, wc, wd⟩, rfl, ⟨wau, wbu, wcu, wdu⟩⟩, ⟨p6, hp6, by simp (disch := first | omega | (simp; done) | (simp; omega)) [hrestr_in, hrestr_out, hrestr_all hd, hupd_same]⟩, by first | omega | (simp at *; omega)⟩)
    ·try simp only[dc]at h44
     refine .q ?_
     refine .c (t := k == 4) (fun h55 => ?_) (fun h55 => ?_)
     ·try simp only[dc]at h55
      refine .sq fun K14 hK14 => ?_
      refine .region ?_
      refine .k 1 ?_ (by simp (disch := first|omega|(simp only[ln];omega)) [List.take_succ_cons, List.take_zero, IntKind.bits]; rfl)
      refine AOPS.old fun hold1 => ?_
      refine .a (word_ac l p2 id _ _ dl hl hp2 (by simp (disch := omega) [hH]) hold1) hb161 ?_ (ha := by simp (disch := first|omega|(simp only[ln];omega)) [idf_Wd', IntKind.bits])
      rintro _ _ nx3 ⟨⟨wa, rfl, wau⟩, ⟨p3, hp3, rfl⟩, hnx3⟩
      try simp only [] at hnx3
      clear hold1
      refine .k 1 ?_ (by simp (disch := first|omega|(simp only[ln];omega)) [List.take_succ_cons, List.take_zero, IntKind.bits]; rfl)
      refine AOPS.old fun hold3 => ?_
      refine .a (below_ac 64 (by omega) (by omega) l p3 id _ _ dl hl hp3 (by simp (disch := omega) [hH]) hold3) hb100 ?_ (ha := by simp (disch := first|omega|(simp only[ln];omega)) [idf_Wd', IntKind.bits])
      rintro _ _ nx4 ⟨⟨k9, rfl, k90, k91⟩, ⟨p4, hp4, rfl⟩, hnx4⟩
      try simp only [] at hnx4
      clear hold3
      obtain ⟨K9, rfl⟩ := Int.eq_ofNat_of_zero_le k90
      have us := shr_U64 wau K9
      refine .k 3 ?_ (by simp (disch := first|omega|(simp only[ln];omega)) [List.take_succ_cons, List.take_zero, IntKind.bits]; rfl)
      refine AOPS.old fun hold7 => ?_
      refine .a (word_ac l p4 id _ _ dl hl hp4 (by simp (disch := omega) [hH]) hold7) hb161 ?_ (ha := by simp (disch := first|omega|(simp only[ln];omega)) [idf_Wd', IntKind.bits])
      rintro _ _ nx5 ⟨⟨wb, rfl, wbu⟩, ⟨p5, hp5, rfl⟩, hnx5⟩
      try simp only [] at hnx5
      clear hold7
      refine .e ?_ (by simp (disch := first|omega|(simp only[ln];omega)) [IntKind.bits]; rfl)
      refine hK14 _ ?_
      refine .ret ?_
      exact hK _ _ _ _ _ trivial ((Fin.mk (r := .agg [.int .u64 (⟨0, 0, wa.fdiv (2 ^ K9), wb⟩ : W4).a, .int .u64 (⟨0, 0, wa.fdiv (2 ^ K9), wb⟩ : W4).b, .int .u64 (⟨0, 0, wa.fdiv (2 ^ K9), wb⟩ : W4).c, .int .u64 (⟨0, 0, wa.fdiv (2 ^ K9), wb⟩ : W4).d]) (by simp (disch := omega) [aRes, aResL, aRes1])).restr (fun i => decide (i < nx))) (⟨⟨⟨0, 0, wa.fdiv (2 ^ K9), wb⟩, rfl, ⟨by unfold U64; simp, by unfold U64; simp, us, wbu⟩⟩, ⟨p5, hp5, by simp (disch := first | omega | (simp; done) | (simp; omega)) [hrestr_in, hrestr_out, hrestr_all hd, hupd_same]⟩, by first | omega | (simp at *; omega)⟩)
     ·try simp only[dc]at h55
      refine .q ?_
      refine .c (t := k == 5) (fun h66 => ?_) (fun h66 => ?_)
      ·try simp only[dc]at h66
       refine .sq fun K16 hK16 => ?_
       refine .region ?_
       refine .k 1 ?_
       refine AOPS.old fun hold1 => ?_
       refine .a (word_ac l p2 id _ _ dl hl hp2 (by simp (disch := omega) [hH]) hold1) hb161 ?_
       rintro _ _ nx3 ⟨⟨wa, rfl, wau⟩, ⟨p3, hp3, rfl⟩, hnx3⟩
       try simp only [] at hnx3
       clear hold1
       have ia := wrap_I64 wa
       refine .kf 1 (l1Int_fc (IntKind.i64.wrap wa) ia.1 ia.2) hb180 ?_
       refine .k 1 ?_
       refine AOPS.old fun hold5 => ?_
       refine .a (word_ac l p3 id _ _ dl hl hp3 (by simp (disch := omega) [hH]) hold5) hb161 ?_
       rintro _ _ nx4 ⟨⟨wb, rfl, wbu⟩, ⟨p4, hp4, rfl⟩, hnx4⟩
       try simp only [] at hnx4
       clear hold5
       have ib := wrap_I64 wb
       have bAB := (Bg.i64 ia.1 ia.2).mul (Bg.i64 ib.1 ib.2)
       have hWd := l1Wide_fc bAB (by omega)
       rw [wdT_l] at hWd
       unfold W4.l at hWd
       refine .kf 1 (l1Int_fc (IntKind.i64.wrap wb) ib.1 ib.2) hb180 ?_
       refine .f (l1Mul_fc (Bg.i64 ia.1 ia.2) (Bg.i64 ib.1 ib.2) (by omega) (by omega)) hb182 ?_
       refine .f hWd hb211 ?_
       refine .e ?_
       refine hK16 _ ?_
       refine .q ?_
       refine .ret ?_
       exact hK _ _ _ _ _ trivial ((Fin.mk (r := .agg [.int .u64 (W4z (IntKind.i64.wrap wa * IntKind.i64.wrap wb)).a, .int .u64 (W4z (IntKind.i64.wrap wa * IntKind.i64.wrap wb)).b, .int .u64 (W4z (IntKind.i64.wrap wa * IntKind.i64.wrap wb)).c, .int .u64 (W4z (IntKind.i64.wrap wa * IntKind.i64.wrap wb)).d]) (by simp (disch := omega) [aRes, aResL, aRes1])).restr (fun i => decide (i < nx))) (⟨⟨W4z (IntKind.i64.wrap wa * IntKind.i64.wrap wb), rfl, W4z_ok _⟩, ⟨p4, hp4, by simp (disch := first | omega | (simp; done) | (simp; omega)) [hrestr_in, hrestr_out, hrestr_all hd, hupd_same]⟩, by first | omega | (simp at *; omega)⟩)
      ·try simp only[dc]at h66
       refine .skip ?_
       refine hK2 _ ?_
       refine .sq fun K18 hK18 => ?_
       refine .region ?_
       refine .k 1 ?_
       refine AOPS.old fun hold1 => ?_
       refine .a (near_ac (-60) (60) (by omega) (by omega) (by omega) l p2 id _ _ dl hl hp2 (by simp (disch := omega) [hH]) hold1) hb162 ?_
       rintro _ _ nx3 ⟨⟨kn, rfl, kn0, kn1⟩, ⟨p3, hp3, rfl⟩, hnx3⟩
       try simp only [] at hnx3
       clear hold1
       refine .f (wideOfS_fc kn (by omega) (by omega)) hb160 ?_
       refine .e ?_
       refine hK18 _ ?_
       refine .ret ?_
       exact hK _ _ _ _ _ trivial ((Fin.mk (r := .agg [.int .u64 (W4z kn).a, .int .u64 (W4z kn).b, .int .u64 (W4z kn).c, .int .u64 (W4z kn).d]) (by simp (disch := omega) [aRes, aResL, aRes1])).restr (fun i => decide (i < nx))) (⟨⟨W4z kn, rfl, W4z_ok _⟩, ⟨p3, hp3, by simp (disch := first | omega | (simp; done) | (simp; omega)) [hrestr_in, hrestr_out, hrestr_all hd, hupd_same]⟩, by first | omega | (simp at *; omega)⟩)
end

end Go.Proofs.YtaibemhdfhchfaaGreat

/- Walks: drawn points. -/
namespace Go.Proofs.YtaibemhdfhchfaaGreat
open Go Go.RowKit
set_option linter.unusedSimpArgs false
set_option linter.unusedVariables false
set_option maxRecDepth 100000
attribute [local simp] szT2 byT2 agT2 unT2 zoT2 szT3 byT3 agT3 unT3 zoT3 szT22 byT22 agT22 elT22 unT22 zoT22 szT25 byT25 agT25 unT25 zoT25 szT27 byT27 agT27 flT27 fdT27_0 fdT27_1 fdT27_2 fdT27_3 zoT27 szT29 byT29 agT29 flT29 fdT29_0 fdT29_1 fdT29_2 zoT29 szT38 byT38 agT38 flT38 fdT38_0 fdT38_1 zoT38 szT196 byT196 agT196 flT196 fdT196_0 fdT196_1 zoT196

set_option maxHeartbeats 8000000 in
theorem point_ac (l : List Int) (p id : Nat) (H : Heap) (nx : Nat) (dl : Dig 256 l) (hl : l.length ≤ 1048576) (hp : p ≤ l.length) (hH : H id = some (2, [[Wd .u8 l, .int .i64 (p : Int)]])) (hd : ∀ i q, H i = some q → i < nx) : ACall Tryz.prog 74 [.ptr id 0 0] H nx (fun r H' nx' => (∃ x : Pt, r = .agg [.int .u64 (x).x.a, .int .u64 (x).x.b, .int .u64 (x).x.c, .int .u64 (x).x.d, .int .u64 (x).y.a, .int .u64 (x).y.b, .int .u64 (x).y.c, .int .u64 (x).y.d, .int .u64 (x).w.a, .int .u64 (x).w.b, .int .u64 (x).w.c, .int .u64 (x).w.d] ∧ x.ok) ∧ (∃ p' : Nat, p' ≤ l.length ∧ H' = hupd H id (some (2, [[Wd .u8 l, .int .i64 (p' : Int)]]))) ∧ nx ≤ nx') := by
 have hid := hd id _ hH
 have hfd : ∀ x : Int, x.fdiv 2 = x / 2 := fun x => Int.fdiv_eq_ediv_of_nonneg _ (by omega)
 refine .b Tryz.func74 84 fun K hK => ?_
 refine .q ?_
 refine .sq fun K2 hK2 => ?_
 refine .sq fun K3 hK3 => ?_
 refine .region ?_
 refine .k 1 ?_ (by simp (disch := first|omega|(simp only[ln];omega)) [List.take_succ_cons, List.take_zero, hH]; rfl)
 refine AOPS.old fun hold1 => ?_
 refine .a (below_ac 10 (by omega) (by omega) l p id _ _ dl hl hp (by simp (disch := omega) [hH]) hold1) hb100 ?_ (ha := by simp (disch := first|omega|(simp only[ln];omega)) [idf_Wd', hH])
 rintro _ _ nx2 ⟨⟨k, rfl, k0, k1⟩, ⟨p2, hp2, rfl⟩, hnx2⟩
 try simp only [] at hnx2
 clear hold1
 refine .nil ?_
 refine hK3 _ ?_
 refine .block ?_
 refine .q ?_
 refine .c (fun h11 => ?_) (fun h11 => ?_)
 ·try simp only[dc]at h11
  refine .sq fun K5 hK5 => ?_
  refine .region ?_
  refine .k 1 ?_
  refine AOPS.old fun hold1 => ?_
  refine .a (wide_ac l p2 id _ _ dl hl hp2 (by simp (disch := omega) [hH]) hold1) hb159 ?_
  rintro _ _ nx3 ⟨⟨xa, rfl, xao⟩, ⟨p3, hp3, rfl⟩, hnx3⟩
  try simp only [] at hnx3
  clear hold1
  refine .k 1 ?_
  refine AOPS.old fun hold3 => ?_
  refine .a (wide_ac l p3 id _ _ dl hl hp3 (by simp (disch := omega) [hH]) hold3) hb159 ?_
  rintro _ _ nx4 ⟨⟨xb, rfl, xbo⟩, ⟨p4, hp4, rfl⟩, hnx4⟩
  try simp only [] at hnx4
  clear hold3
  refine .k 1 ?_
  refine AOPS.old fun hold5 => ?_
  refine .a (wide_ac l p4 id _ _ dl hl hp4 (by simp (disch := omega) [hH]) hold5) hb159 ?_
  rintro _ _ nx5 ⟨⟨xc, rfl, xco⟩, ⟨p5, hp5, rfl⟩, hnx5⟩
  try simp only [] at hnx5
  clear hold5
  refine .f (pointMakeS_fc xa xb xc xao xbo xco) hb158 ?_
  refine .e ?_
  refine hK5 _ ?_
  refine .q ?_
  refine .ret ?_
  exact hK _ _ _ _ _ trivial ((Fin.mk (r := .agg [.int .u64 (mkP xa.v xb.v xc.v).x.a, .int .u64 (mkP xa.v xb.v xc.v).x.b, .int .u64 (mkP xa.v xb.v xc.v).x.c, .int .u64 (mkP xa.v xb.v xc.v).x.d, .int .u64 (mkP xa.v xb.v xc.v).y.a, .int .u64 (mkP xa.v xb.v xc.v).y.b, .int .u64 (mkP xa.v xb.v xc.v).y.c, .int .u64 (mkP xa.v xb.v xc.v).y.d, .int .u64 (mkP xa.v xb.v xc.v).w.a, .int .u64 (mkP xa.v xb.v xc.v).w.b, .int .u64 (mkP xa.v xb.v xc.v).w.c, .int .u64 (mkP xa.v xb.v xc.v).w.d]) (by simp (disch := omega) [aRes, aResL, aRes1])).restr (fun i => decide (i < nx))) (⟨⟨mkP xa.v xb.v xc.v, rfl, mkP_ok _ _ _⟩, ⟨p5, hp5, by simp (disch := first | omega | (simp; done) | (simp; omega)) [hrestr_in, hrestr_out, hrestr_all hd, hupd_same]⟩, by first | omega | (simp at *; omega)⟩)
 ·try simp only[dc]at h11
  refine .q ?_
  refine .c (fun h24 => ?_) (fun h24 => ?_)
  ·try simp only[dc]at h24
   refine .sq fun K8 hK8 => ?_
   refine .sq fun K9 hK9 => ?_
   refine .region ?_
   refine .k 1 ?_
   refine AOPS.old fun hold1 => ?_
   refine .a (once_ac 4 (by omega) (by omega) l p2 id _ _ dl hl hp2 (by simp (disch := omega) [hH]) hold1) hb98 ?_
   rintro _ _ nx3 ⟨⟨b, rfl⟩, ⟨p3, hp3, rfl⟩, hnx3⟩
   try simp only [] at hnx3
   clear hold1
   refine .nil ?_
   refine hK9 _ ?_
   refine .c (t := b) (fun h27 => ?_) (fun h27 => ?_)
   ·try simp only[dc]at h27
    refine .sq fun K10 hK10 => ?_
    refine .region ?_
    refine .k 1 ?_
    refine AOPS.old fun hold1 => ?_
    refine .a (wide_ac l p3 id _ _ dl hl hp3 (by simp (disch := omega) [hH]) hold1) hb159 ?_
    rintro _ _ nx4 ⟨⟨xa, rfl, xao⟩, ⟨p4, hp4, rfl⟩, hnx4⟩
    try simp only [] at hnx4
    clear hold1
    refine .k 1 ?_
    refine AOPS.old fun hold3 => ?_
    refine .a (wide_ac l p4 id _ _ dl hl hp4 (by simp (disch := omega) [hH]) hold3) hb159 ?_
    rintro _ _ nx5 ⟨⟨xb, rfl, xbo⟩, ⟨p5, hp5, rfl⟩, hnx5⟩
    try simp only [] at hnx5
    clear hold3
    refine .k 1 ?_
    refine AOPS.old fun hold5 => ?_
    refine .a (wide_ac l p5 id _ _ dl hl hp5 (by simp (disch := omega) [hH]) hold5) hb159 ?_
    rintro _ _ nx6 ⟨⟨xc, rfl, xco⟩, ⟨p6, hp6, rfl⟩, hnx6⟩
    try simp only [] at hnx6
    clear hold5
    refine .e ?_
    refine hK10 _ ?_
    refine .ret ?_
    exact hK _ _ _ _ _ trivial ((Fin.mk (r := .agg [.int .u64 ((⟨xa, xb, xc⟩ : Pt)).x.a, .int .u64 ((⟨xa, xb, xc⟩ : Pt)).x.b, .int .u64 ((⟨xa, xb, xc⟩ : Pt)).x.c, .int .u64 ((⟨xa, xb, xc⟩ : Pt)).x.d, .int .u64 ((⟨xa, xb, xc⟩ : Pt)).y.a, .int .u64 ((⟨xa, xb, xc⟩ : Pt)).y.b, .int .u64 ((⟨xa, xb, xc⟩ : Pt)).y.c, .int .u64 ((⟨xa, xb, xc⟩ : Pt)).y.d, .int .u64 ((⟨xa, xb, xc⟩ : Pt)).w.a, .int .u64 ((⟨xa, xb, xc⟩ : Pt)).w.b, .int .u64 ((⟨xa, xb, xc⟩ : Pt)).w.c, .int .u64 ((⟨xa, xb, xc⟩ : Pt)).w.d]) (by simp (disch := omega) [aRes, aResL, aRes1])).restr (fun i => decide (i < nx))) (⟨⟨(⟨xa, xb, xc⟩ : Pt), rfl, ⟨xao, xbo, xco⟩⟩, ⟨p6, hp6, by simp (disch := first | omega | (simp; done) | (simp; omega)) [hrestr_in, hrestr_out, hrestr_all hd, hupd_same]⟩, by first | omega | (simp at *; omega)⟩)
   ·try simp only[dc]at h27
    refine .skip ?_
    refine hK8 _ ?_
    refine .sq fun K11 hK11 => ?_
    refine .region ?_
    refine .k 1 ?_ (by simp (disch := first|omega|(simp only[ln];omega)) [List.take_succ_cons, List.take_zero, IntKind.bits, hfd]; rfl)
    refine AOPS.old fun hold1 => ?_
    refine .a (word_ac l p3 id _ _ dl hl hp3 (by simp (disch := omega) [hH]) hold1) hb161 ?_ (ha := by simp (disch := first|omega|(simp only[ln];omega)) [idf_Wd', IntKind.bits, hfd])
    rintro _ _ nx4 ⟨⟨wa, rfl, wau⟩, ⟨p4, hp4, rfl⟩, hnx4⟩
    try simp only [] at hnx4
    clear hold1
    have ia := wrap_I64 wa
    refine .kf 1 (wideOfS_fc (IntKind.i64.wrap wa) ia.1 ia.2) hb160 ?_ (by simp (disch := first|omega|(simp only[ln];omega)) [List.take_succ_cons, List.take_zero, IntKind.bits, hfd]; rfl) (ha := by simp (disch := first|omega|(simp only[ln];omega)) [idf_Wd', IntKind.bits, hfd])
    refine .k 1 ?_ (by simp (disch := first|omega|(simp only[ln];omega)) [List.take_succ_cons, List.take_zero, IntKind.bits, hfd]; rfl)
    refine AOPS.old fun hold5 => ?_
    refine .a (word_ac l p4 id _ _ dl hl hp4 (by simp (disch := omega) [hH]) hold5) hb161 ?_ (ha := by simp (disch := first|omega|(simp only[ln];omega)) [idf_Wd', IntKind.bits, hfd])
    rintro _ _ nx5 ⟨⟨wb, rfl, wbu⟩, ⟨p5, hp5, rfl⟩, hnx5⟩
    try simp only [] at hnx5
    clear hold5
    have ib := wrap_I64 wb
    refine .kf 1 (wideOfS_fc (IntKind.i64.wrap wb) ib.1 ib.2) hb160 ?_ (by simp (disch := first|omega|(simp only[ln];omega)) [List.take_succ_cons, List.take_zero, IntKind.bits, hfd]; rfl) (ha := by simp (disch := first|omega|(simp only[ln];omega)) [idf_Wd', IntKind.bits, hfd])
    refine .k 1 ?_ (by simp (disch := first|omega|(simp only[ln];omega)) [List.take_succ_cons, List.take_zero, IntKind.bits, hfd]; rfl)
    refine AOPS.old fun hold9 => ?_
    refine .a (word_ac l p5 id _ _ dl hl hp5 (by simp (disch := omega) [hH]) hold9) hb161 ?_ (ha := by simp (disch := first|omega|(simp only[ln];omega)) [idf_Wd', IntKind.bits, hfd])
    rintro _ _ nx6 ⟨⟨wc, rfl, wcu⟩, ⟨p6, hp6, rfl⟩, hnx6⟩
    try simp only [] at hnx6
    clear hold9
    have fdw : wc.fdiv 2 = wc / 2 := Int.fdiv_eq_ediv_of_nonneg _ (by omega)
    obtain ⟨wcu0, wcu1⟩ := wcu
    have ic := wrap_I64 (1 + wc / 2)
    refine .kf 3 (wideOfS_fc (IntKind.i64.wrap (1 + wc / 2)) ic.1 ic.2) hb160 ?_ (by simp (disch := first|omega|(simp only[ln];omega)) [List.take_succ_cons, List.take_zero, IntKind.bits, hfd]; rfl) (ha := by simp (disch := first|omega|(simp only[ln];omega)) [idf_Wd', IntKind.bits, hfd])
    refine .f (pointMakeS_fc (W4z (IntKind.i64.wrap wa)) (W4z (IntKind.i64.wrap wb)) (W4z (IntKind.i64.wrap (1 + wc / 2))) (W4z_ok _) (W4z_ok _) (W4z_ok _)) hb158 ?_ (ha := by simp (disch := first|omega|(simp only[ln];omega)) [idf_Wd', IntKind.bits, hfd])
    refine .e ?_ (by simp (disch := first|omega|(simp only[ln];omega)) [IntKind.bits, hfd]; rfl)
    refine hK11 _ ?_
    refine .q ?_
    refine .ret ?_
    exact hK _ _ _ _ _ trivial ((Fin.mk (r := .agg [.int .u64 (mkP (W4z (IntKind.i64.wrap wa)).v (W4z (IntKind.i64.wrap wb)).v (W4z (IntKind.i64.wrap (1 + wc / 2))).v).x.a, .int .u64 (mkP (W4z (IntKind.i64.wrap wa)).v (W4z (IntKind.i64.wrap wb)).v (W4z (IntKind.i64.wrap (1 + wc / 2))).v).x.b, .int .u64 (mkP (W4z (IntKind.i64.wrap wa)).v (W4z (IntKind.i64.wrap wb)).v (W4z (IntKind.i64.wrap (1 + wc / 2))).v).x.c, .int .u64 (mkP (W4z (IntKind.i64.wrap wa)).v (W4z (IntKind.i64.wrap wb)).v (W4z (IntKind.i64.wrap (1 + wc / 2))).v).x.d, .int .u64 (mkP (W4z (IntKind.i64.wrap wa)).v (W4z (IntKind.i64.wrap wb)).v (W4z (IntKind.i64.wrap (1 + wc / 2))).v).y.a, .int .u64 (mkP (W4z (IntKind.i64.wrap wa)).v (W4z (IntKind.i64.wrap wb)).v (W4z (IntKind.i64.wrap (1 + wc / 2))).v).y.b, .int .u64 (mkP (W4z (IntKind.i64.wrap wa)).v (W4z (IntKind.i64.wrap wb)).v (W4z (IntKind.i64.wrap (1 + wc / 2))).v).y.c, .int .u64 (mkP (W4z (IntKind.i64.wrap wa)).v (W4z (IntKind.i64.wrap wb)).v (W4z (IntKind.i64.wrap (1 + wc / 2))).v).y.d, .int .u64 (mkP (W4z (IntKind.i64.wrap wa)).v (W4z (IntKind.i64.wrap wb)).v (W4z (IntKind.i64.wrap (1 + wc / 2))).v).w.a, .int .u64 (mkP (W4z (IntKind.i64.wrap wa)).v (W4z (IntKind.i64.wrap wb)).v (W4z (IntKind.i64.wrap (1 + wc / 2))).v).w.b, .int .u64 (mkP (W4z (IntKind.i64.wrap wa)).v (W4z (IntKind.i64.wrap wb)).v (W4z (IntKind.i64.wrap (1 + wc / 2))).v).w.c, .int .u64 (mkP (W4z (IntKind.i64.wrap wa)).v (W4z (IntKind.i64.wrap wb)).v (W4z (IntKind.i64.wrap (1 + wc / 2))).v).w.d]) (by simp (disch := omega) [aRes, aResL, aRes1])).restr (fun i => decide (i < nx))) (⟨⟨mkP (W4z (IntKind.i64.wrap wa)).v (W4z (IntKind.i64.wrap wb)).v (W4z (IntKind.i64.wrap (1 + wc / 2))).v, rfl, mkP_ok _ _ _⟩, ⟨p6, hp6, by simp (disch := first | omega | (simp; done) | (simp; omega)) [hrestr_in, hrestr_out, hrestr_all hd, hupd_same]⟩, by first | omega | (simp at *; omega)⟩)
  ·try simp only[dc]at h24
   refine .sq fun K13 hK13 => ?_
   refine .q ?_
   refine .c (fun h54 => ?_) (fun h54 => ?_)
   ·try simp only[dc]at h54
    refine .skip ?_
    refine hK13 _ ?_
    refine .c (fun h54 => ?_) (fun h54 => ?_)
    ·try simp only[dc]at h54
     refine .sq fun K15 hK15 => ?_
     refine .region ?_
     refine .k 1 ?_
     refine AOPS.old fun hold1 => ?_
     refine .a (near_ac (-40) (40) (by omega) (by omega) (by omega) l p2 id _ _ dl hl hp2 (by simp (disch := omega) [hH]) hold1) hb162 ?_
     rintro _ _ nx3 ⟨⟨na, rfl, na0, na1⟩, ⟨p3, hp3, rfl⟩, hnx3⟩
     try simp only [] at hnx3
     clear hold1
     refine .f (wideOfS_fc na (by omega) (by omega)) hb160 ?_
     refine .k 1 ?_
     refine AOPS.old fun hold4 => ?_
     refine .a (near_ac (-40) (40) (by omega) (by omega) (by omega) l p3 id _ _ dl hl hp3 (by simp (disch := omega) [hH]) hold4) hb162 ?_
     rintro _ _ nx4 ⟨⟨nb, rfl, nb0, nb1⟩, ⟨p4, hp4, rfl⟩, hnx4⟩
     try simp only [] at hnx4
     clear hold4
     refine .f (wideOfS_fc nb (by omega) (by omega)) hb160 ?_
     refine .k 1 ?_
     refine AOPS.old fun hold7 => ?_
     refine .a (near_ac (0) (9) (by omega) (by omega) (by omega) l p4 id _ _ dl hl hp4 (by simp (disch := omega) [hH]) hold7) hb162 ?_
     rintro _ _ nx5 ⟨⟨nc, rfl, nc0, nc1⟩, ⟨p5, hp5, rfl⟩, hnx5⟩
     try simp only [] at hnx5
     clear hold7
     refine .kf 1 (wideOfS_fc (1 + nc) (by omega) (by omega)) hb160 ?_
     refine .f (pointMakeS_fc (W4z na) (W4z nb) (W4z (1 + nc)) (W4z_ok _) (W4z_ok _) (W4z_ok _)) hb158 ?_
     refine .e ?_
     refine hK15 _ ?_
     refine .q ?_
     refine .ret ?_
     exact hK _ _ _ _ _ trivial ((Fin.mk (r := .agg [.int .u64 (mkP (W4z na).v (W4z nb).v (W4z (1 + nc)).v).x.a, .int .u64 (mkP (W4z na).v (W4z nb).v (W4z (1 + nc)).v).x.b, .int .u64 (mkP (W4z na).v (W4z nb).v (W4z (1 + nc)).v).x.c, .int .u64 (mkP (W4z na).v (W4z nb).v (W4z (1 + nc)).v).x.d, .int .u64 (mkP (W4z na).v (W4z nb).v (W4z (1 + nc)).v).y.a, .int .u64 (mkP (W4z na).v (W4z nb).v (W4z (1 + nc)).v).y.b, .int .u64 (mkP (W4z na).v (W4z nb).v (W4z (1 + nc)).v).y.c, .int .u64 (mkP (W4z na).v (W4z nb).v (W4z (1 + nc)).v).y.d, .int .u64 (mkP (W4z na).v (W4z nb).v (W4z (1 + nc)).v).w.a, .int .u64 (mkP (W4z na).v (W4z nb).v (W4z (1 + nc)).v).w.b, .int .u64 (mkP (W4z na).v (W4z nb).v (W4z (1 + nc)).v).w.c, .int .u64 (mkP (W4z na).v (W4z nb).v (W4z (1 + nc)).v).w.d]) (by simp (disch := omega) [aRes, aResL, aRes1])).restr (fun i => decide (i < nx))) (⟨⟨mkP (W4z na).v (W4z nb).v (W4z (1 + nc)).v, rfl, mkP_ok _ _ _⟩, ⟨p5, hp5, by simp (disch := first | omega | (simp; done) | (simp; omega)) [hrestr_in, hrestr_out, hrestr_all hd, hupd_same]⟩, by first | omega | (simp at *; omega)⟩)
    ·try simp only[dc]at h54
     refine .q ?_
     refine .c (fun h73 => ?_) (fun h73 => ?_)
     ·try simp only[dc]at h73
      refine .sq fun K18 hK18 => ?_
      refine .region ?_
      refine .k 1 ?_
      refine AOPS.old fun hold1 => ?_
      refine .a (near_ac (-1000000) (1000000) (by omega) (by omega) (by omega) l p2 id _ _ dl hl hp2 (by simp (disch := omega) [hH]) hold1) hb162 ?_
      rintro _ _ nx3 ⟨⟨na, rfl, na0, na1⟩, ⟨p3, hp3, rfl⟩, hnx3⟩
      try simp only [] at hnx3
      clear hold1
      refine .k 1 ?_
      refine AOPS.old fun hold3 => ?_
      refine .a (near_ac (-1000000) (1000000) (by omega) (by omega) (by omega) l p3 id _ _ dl hl hp3 (by simp (disch := omega) [hH]) hold3) hb162 ?_
      rintro _ _ nx4 ⟨⟨nb, rfl, nb0, nb1⟩, ⟨p4, hp4, rfl⟩, hnx4⟩
      try simp only [] at hnx4
      clear hold3
      refine .kf 1 (pointOfS_fc na nb (by omega) (by omega) (by omega) (by omega)) hb99 ?_
      refine .e ?_
      refine hK18 _ ?_
      refine .ret ?_
      exact hK _ _ _ _ _ trivial ((Fin.mk (r := .agg [.int .u64 (pt3 na nb 1).x.a, .int .u64 (pt3 na nb 1).x.b, .int .u64 (pt3 na nb 1).x.c, .int .u64 (pt3 na nb 1).x.d, .int .u64 (pt3 na nb 1).y.a, .int .u64 (pt3 na nb 1).y.b, .int .u64 (pt3 na nb 1).y.c, .int .u64 (pt3 na nb 1).y.d, .int .u64 (pt3 na nb 1).w.a, .int .u64 (pt3 na nb 1).w.b, .int .u64 (pt3 na nb 1).w.c, .int .u64 (pt3 na nb 1).w.d]) (by simp (disch := omega) [aRes, aResL, aRes1])).restr (fun i => decide (i < nx))) (⟨⟨pt3 na nb 1, rfl, pt3_ok _ _ _⟩, ⟨p4, hp4, by simp (disch := first | omega | (simp; done) | (simp; omega)) [hrestr_in, hrestr_out, hrestr_all hd, hupd_same]⟩, by first | omega | (simp at *; omega)⟩)
     ·try simp only[dc]at h73
      refine .skip ?_
      refine hK2 _ ?_
      refine .sq fun K19 hK19 => ?_
      refine .region ?_
      refine .k 1 ?_
      refine AOPS.old fun hold1 => ?_
      refine .a (spot_ac l p2 id _ _ dl hl hp2 (by simp (disch := omega) [hH]) hold1) hb155 ?_
      rintro _ _ nx3 ⟨⟨na, nb, rfl, na0, na1, nb0, nb1⟩, ⟨p3, hp3, rfl⟩, hnx3⟩
      try simp only [] at hnx3
      clear hold1
      refine .f (pointOfS_fc na nb (by omega) (by omega) (by omega) (by omega)) hb99 ?_
      refine .e ?_
      refine hK19 _ ?_
      refine .ret ?_
      exact hK _ _ _ _ _ trivial ((Fin.mk (r := .agg [.int .u64 (pt3 na nb 1).x.a, .int .u64 (pt3 na nb 1).x.b, .int .u64 (pt3 na nb 1).x.c, .int .u64 (pt3 na nb 1).x.d, .int .u64 (pt3 na nb 1).y.a, .int .u64 (pt3 na nb 1).y.b, .int .u64 (pt3 na nb 1).y.c, .int .u64 (pt3 na nb 1).y.d, .int .u64 (pt3 na nb 1).w.a, .int .u64 (pt3 na nb 1).w.b, .int .u64 (pt3 na nb 1).w.c, .int .u64 (pt3 na nb 1).w.d]) (by simp (disch := omega) [aRes, aResL, aRes1])).restr (fun i => decide (i < nx))) (⟨⟨pt3 na nb 1, rfl, pt3_ok _ _ _⟩, ⟨p3, hp3, by simp (disch := first | omega | (simp; done) | (simp; omega)) [hrestr_in, hrestr_out, hrestr_all hd, hupd_same]⟩, by first | omega | (simp at *; omega)⟩)
   ·try simp only[dc]at h54
    refine .q ?_
    refine .c (fun h54 => ?_) (fun h54 => ?_)
    ·try simp only[dc]at h54
     refine .skip ?_
     refine hK13 _ ?_
     refine .c (fun h54 => ?_) (fun h54 => ?_)
     ·try simp only[dc]at h54
      refine .sq fun K21 hK21 => ?_
      refine .region ?_
      refine .k 1 ?_
      refine AOPS.old fun hold1 => ?_
      refine .a (near_ac (-40) (40) (by omega) (by omega) (by omega) l p2 id _ _ dl hl hp2 (by simp (disch := omega) [hH]) hold1) hb162 ?_
      rintro _ _ nx3 ⟨⟨na, rfl, na0, na1⟩, ⟨p3, hp3, rfl⟩, hnx3⟩
      try simp only [] at hnx3
      clear hold1
      refine .f (wideOfS_fc na (by omega) (by omega)) hb160 ?_
      refine .k 1 ?_
      refine AOPS.old fun hold4 => ?_
      refine .a (near_ac (-40) (40) (by omega) (by omega) (by omega) l p3 id _ _ dl hl hp3 (by simp (disch := omega) [hH]) hold4) hb162 ?_
      rintro _ _ nx4 ⟨⟨nb, rfl, nb0, nb1⟩, ⟨p4, hp4, rfl⟩, hnx4⟩
      try simp only [] at hnx4
      clear hold4
      refine .f (wideOfS_fc nb (by omega) (by omega)) hb160 ?_
      refine .k 1 ?_
      refine AOPS.old fun hold7 => ?_
      refine .a (near_ac (0) (9) (by omega) (by omega) (by omega) l p4 id _ _ dl hl hp4 (by simp (disch := omega) [hH]) hold7) hb162 ?_
      rintro _ _ nx5 ⟨⟨nc, rfl, nc0, nc1⟩, ⟨p5, hp5, rfl⟩, hnx5⟩
      try simp only [] at hnx5
      clear hold7
      refine .kf 1 (wideOfS_fc (1 + nc) (by omega) (by omega)) hb160 ?_
      refine .f (pointMakeS_fc (W4z na) (W4z nb) (W4z (1 + nc)) (W4z_ok _) (W4z_ok _) (W4z_ok _)) hb158 ?_
      refine .e ?_
      refine hK21 _ ?_
      refine .q ?_
      refine .ret ?_
      exact hK _ _ _ _ _ trivial ((Fin.mk (r := .agg [.int .u64 (mkP (W4z na).v (W4z nb).v (W4z (1 + nc)).v).x.a, .int .u64 (mkP (W4z na).v (W4z nb).v (W4z (1 + nc)).v).x.b, .int .u64 (mkP (W4z na).v (W4z nb).v (W4z (1 + nc)).v).x.c, .int .u64 (mkP (W4z na).v (W4z nb).v (W4z (1 + nc)).v).x.d, .int .u64 (mkP (W4z na).v (W4z nb).v (W4z (1 + nc)).v).y.a, .int .u64 (mkP (W4z na).v (W4z nb).v (W4z (1 + nc)).v).y.b, .int .u64 (mkP (W4z na).v (W4z nb).v (W4z (1 + nc)).v).y.c, .int .u64 (mkP (W4z na).v (W4z nb).v (W4z (1 + nc)).v).y.d, .int .u64 (mkP (W4z na).v (W4z nb).v (W4z (1 + nc)).v).w.a, .int .u64 (mkP (W4z na).v (W4z nb).v (W4z (1 + nc)).v).w.b, .int .u64 (mkP (W4z na).v (W4z nb).v (W4z (1 + nc)).v).w.c, .int .u64 (mkP (W4z na).v (W4z nb).v (W4z (1 + nc)).v).w.d]) (by simp (disch := omega) [aRes, aResL, aRes1])).restr (fun i => decide (i < nx))) (⟨⟨mkP (W4z na).v (W4z nb).v (W4z (1 + nc)).v, rfl, mkP_ok _ _ _⟩, ⟨p5, hp5, by simp (disch := first | omega | (simp; done) | (simp; omega)) [hrestr_in, hrestr_out, hrestr_all hd, hupd_same]⟩, by first | omega | (simp at *; omega)⟩)
     ·try simp only[dc]at h54
      refine .q ?_
      refine .c (fun h73 => ?_) (fun h73 => ?_)
      ·try simp only[dc]at h73
       refine .sq fun K24 hK24 => ?_
       refine .region ?_
       refine .k 1 ?_
       refine AOPS.old fun hold1 => ?_
       refine .a (near_ac (-1000000) (1000000) (by omega) (by omega) (by omega) l p2 id _ _ dl hl hp2 (by simp (disch := omega) [hH]) hold1) hb162 ?_
       rintro _ _ nx3 ⟨⟨na, rfl, na0, na1⟩, ⟨p3, hp3, rfl⟩, hnx3⟩
       try simp only [] at hnx3
       clear hold1
       refine .k 1 ?_
       refine AOPS.old fun hold3 => ?_
       refine .a (near_ac (-1000000) (1000000) (by omega) (by omega) (by omega) l p3 id _ _ dl hl hp3 (by simp (disch := omega) [hH]) hold3) hb162 ?_
       rintro _ _ nx4 ⟨⟨nb, rfl, nb0, nb1⟩, ⟨p4, hp4, rfl⟩, hnx4⟩
       try simp only [] at hnx4
       clear hold3
       refine .kf 1 (pointOfS_fc na nb (by omega) (by omega) (by omega) (by omega)) hb99 ?_
       refine .e ?_
       refine hK24 _ ?_
       refine .ret ?_
       exact hK _ _ _ _ _ trivial ((Fin.mk (r := .agg [.int .u64 (pt3 na nb 1).x.a, .int .u64 (pt3 na nb 1).x.b, .int .u64 (pt3 na nb 1).x.c, .int .u64 (pt3 na nb 1).x.d, .int .u64 (pt3 na nb 1).y.a, .int .u64 (pt3 na nb 1).y.b, .int .u64 (pt3 na nb 1).y.c, .int .u64 (pt3 na nb 1).y.d, .int .u64 (pt3 na nb 1).w.a, .int .u64 (pt3 na nb 1).w.b, .int .u64 (pt3 na nb 1).w.c, .int .u64 (pt3 na nb 1).w.d]) (by simp (disch := omega) [aRes, aResL, aRes1])).restr (fun i => decide (i < nx))) (⟨⟨pt3 na nb 1, rfl, pt3_ok _ _ _⟩, ⟨p4, hp4, by simp (disch := first | omega | (simp; done) | (simp; omega)) [hrestr_in, hrestr_out, hrestr_all hd, hupd_same]⟩, by first | omega | (simp at *; omega)⟩)
      ·try simp only[dc]at h73
       refine .skip ?_
       refine hK2 _ ?_
       refine .sq fun K25 hK25 => ?_
       refine .region ?_
       refine .k 1 ?_
       refine AOPS.old fun hold1 => ?_
       refine .a (spot_ac l p2 id _ _ dl hl hp2 (by simp (disch := omega) [hH]) hold1) hb155 ?_
       rintro _ _ nx3 ⟨⟨na, nb, rfl, na0, na1, nb0, nb1⟩, ⟨p3, hp3, rfl⟩, hnx3⟩
       try simp only [] at hnx3
       clear hold1
       refine .f (pointOfS_fc na nb (by omega) (by omega) (by omega) (by omega)) hb99 ?_
       refine .e ?_
       refine hK25 _ ?_
       refine .ret ?_
       exact hK _ _ _ _ _ trivial ((Fin.mk (r := .agg [.int .u64 (pt3 na nb 1).x.a, .int .u64 (pt3 na nb 1).x.b, .int .u64 (pt3 na nb 1).x.c, .int .u64 (pt3 na nb 1).x.d, .int .u64 (pt3 na nb 1).y.a, .int .u64 (pt3 na nb 1).y.b, .int .u64 (pt3 na nb 1).y.c, .int .u64 (pt3 na nb 1).y.d, .int .u64 (pt3 na nb 1).w.a, .int .u64 (pt3 na nb 1).w.b, .int .u64 (pt3 na nb 1).w.c, .int .u64 (pt3 na nb 1).w.d]) (by simp (disch := omega) [aRes, aResL, aRes1])).restr (fun i => decide (i < nx))) (⟨⟨pt3 na nb 1, rfl, pt3_ok _ _ _⟩, ⟨p3, hp3, by simp (disch := first | omega | (simp; done) | (simp; omega)) [hrestr_in, hrestr_out, hrestr_all hd, hupd_same]⟩, by first | omega | (simp at *; omega)⟩)
    ·try simp only[dc]at h54
     refine .r ?_
     refine hK13 _ ?_
     refine .c (fun h54 => ?_) (fun h54 => ?_)
     ·try simp only[dc]at h54
      refine .sq fun K26 hK26 => ?_
      refine .region ?_
      refine .k 1 ?_
      refine AOPS.old fun hold1 => ?_
      refine .a (near_ac (-40) (40) (by omega) (by omega) (by omega) l p2 id _ _ dl hl hp2 (by simp (disch := omega) [hH]) hold1) hb162 ?_
      rintro _ _ nx3 ⟨⟨na, rfl, na0, na1⟩, ⟨p3, hp3, rfl⟩, hnx3⟩
      try simp only [] at hnx3
      clear hold1
      refine .f (wideOfS_fc na (by omega) (by omega)) hb160 ?_
      refine .k 1 ?_
      refine AOPS.old fun hold4 => ?_
      refine .a (near_ac (-40) (40) (by omega) (by omega) (by omega) l p3 id _ _ dl hl hp3 (by simp (disch := omega) [hH]) hold4) hb162 ?_
      rintro _ _ nx4 ⟨⟨nb, rfl, nb0, nb1⟩, ⟨p4, hp4, rfl⟩, hnx4⟩
      try simp only [] at hnx4
      clear hold4
      refine .f (wideOfS_fc nb (by omega) (by omega)) hb160 ?_
      refine .k 1 ?_
      refine AOPS.old fun hold7 => ?_
      refine .a (near_ac (0) (9) (by omega) (by omega) (by omega) l p4 id _ _ dl hl hp4 (by simp (disch := omega) [hH]) hold7) hb162 ?_
      rintro _ _ nx5 ⟨⟨nc, rfl, nc0, nc1⟩, ⟨p5, hp5, rfl⟩, hnx5⟩
      try simp only [] at hnx5
      clear hold7
      refine .kf 1 (wideOfS_fc (1 + nc) (by omega) (by omega)) hb160 ?_
      refine .f (pointMakeS_fc (W4z na) (W4z nb) (W4z (1 + nc)) (W4z_ok _) (W4z_ok _) (W4z_ok _)) hb158 ?_
      refine .e ?_
      refine hK26 _ ?_
      refine .q ?_
      refine .ret ?_
      exact hK _ _ _ _ _ trivial ((Fin.mk (r := .agg [.int .u64 (mkP (W4z na).v (W4z nb).v (W4z (1 + nc)).v).x.a, .int .u64 (mkP (W4z na).v (W4z nb).v (W4z (1 + nc)).v).x.b, .int .u64 (mkP (W4z na).v (W4z nb).v (W4z (1 + nc)).v).x.c, .int .u64 (mkP (W4z na).v (W4z nb).v (W4z (1 + nc)).v).x.d, .int .u64 (mkP (W4z na).v (W4z nb).v (W4z (1 + nc)).v).y.a, .int .u64 (mkP (W4z na).v (W4z nb).v (W4z (1 + nc)).v).y.b, .int .u64 (mkP (W4z na).v (W4z nb).v (W4z (1 + nc)).v).y.c, .int .u64 (mkP (W4z na).v (W4z nb).v (W4z (1 + nc)).v).y.d, .int .u64 (mkP (W4z na).v (W4z nb).v (W4z (1 + nc)).v).w.a, .int .u64 (mkP (W4z na).v (W4z nb).v (W4z (1 + nc)).v).w.b, .int .u64 (mkP (W4z na).v (W4z nb).v (W4z (1 + nc)).v).w.c, .int .u64 (mkP (W4z na).v (W4z nb).v (W4z (1 + nc)).v).w.d]) (by simp (disch := omega) [aRes, aResL, aRes1])).restr (fun i => decide (i < nx))) (⟨⟨mkP (W4z na).v (W4z nb).v (W4z (1 + nc)).v, rfl, mkP_ok _ _ _⟩, ⟨p5, hp5, by simp (disch := first | omega | (simp; done) | (simp; omega)) [hrestr_in, hrestr_out, hrestr_all hd, hupd_same]⟩, by first | omega | (simp at *; omega)⟩)
     ·try simp only[dc]at h54
      refine .q ?_
      refine .c (fun h73 => ?_) (fun h73 => ?_)
      ·try simp only[dc]at h73
       refine .sq fun K29 hK29 => ?_
       refine .region ?_
       refine .k 1 ?_
       refine AOPS.old fun hold1 => ?_
       refine .a (near_ac (-1000000) (1000000) (by omega) (by omega) (by omega) l p2 id _ _ dl hl hp2 (by simp (disch := omega) [hH]) hold1) hb162 ?_
       rintro _ _ nx3 ⟨⟨na, rfl, na0, na1⟩, ⟨p3, hp3, rfl⟩, hnx3⟩
       try simp only [] at hnx3
       clear hold1
       refine .k 1 ?_
       refine AOPS.old fun hold3 => ?_
       refine .a (near_ac (-1000000) (1000000) (by omega) (by omega) (by omega) l p3 id _ _ dl hl hp3 (by simp (disch := omega) [hH]) hold3) hb162 ?_
       rintro _ _ nx4 ⟨⟨nb, rfl, nb0, nb1⟩, ⟨p4, hp4, rfl⟩, hnx4⟩
       try simp only [] at hnx4
       clear hold3
       refine .kf 1 (pointOfS_fc na nb (by omega) (by omega) (by omega) (by omega)) hb99 ?_
       refine .e ?_
       refine hK29 _ ?_
       refine .ret ?_
       exact hK _ _ _ _ _ trivial ((Fin.mk (r := .agg [.int .u64 (pt3 na nb 1).x.a, .int .u64 (pt3 na nb 1).x.b, .int .u64 (pt3 na nb 1).x.c, .int .u64 (pt3 na nb 1).x.d, .int .u64 (pt3 na nb 1).y.a, .int .u64 (pt3 na nb 1).y.b, .int .u64 (pt3 na nb 1).y.c, .int .u64 (pt3 na nb 1).y.d, .int .u64 (pt3 na nb 1).w.a, .int .u64 (pt3 na nb 1).w.b, .int .u64 (pt3 na nb 1).w.c, .int .u64 (pt3 na nb 1).w.d]) (by simp (disch := omega) [aRes, aResL, aRes1])).restr (fun i => decide (i < nx))) (⟨⟨pt3 na nb 1, rfl, pt3_ok _ _ _⟩, ⟨p4, hp4, by simp (disch := first | omega | (simp; done) | (simp; omega)) [hrestr_in, hrestr_out, hrestr_all hd, hupd_same]⟩, by first | omega | (simp at *; omega)⟩)
      ·try simp only[dc]at h73
       refine .skip ?_
       refine hK2 _ ?_
       refine .sq fun K30 hK30 => ?_
       refine .region ?_
       refine .k 1 ?_
       refine AOPS.old fun hold1 => ?_
       refine .a (spot_ac l p2 id _ _ dl hl hp2 (by simp (disch := omega) [hH]) hold1) hb155 ?_
       rintro _ _ nx3 ⟨⟨na, nb, rfl, na0, na1, nb0, nb1⟩, ⟨p3, hp3, rfl⟩, hnx3⟩
       try simp only [] at hnx3
       clear hold1
       refine .f (pointOfS_fc na nb (by omega) (by omega) (by omega) (by omega)) hb99 ?_
       refine .e ?_
       refine hK30 _ ?_
       refine .ret ?_
       exact hK _ _ _ _ _ trivial ((Fin.mk (r := .agg [.int .u64 (pt3 na nb 1).x.a, .int .u64 (pt3 na nb 1).x.b, .int .u64 (pt3 na nb 1).x.c, .int .u64 (pt3 na nb 1).x.d, .int .u64 (pt3 na nb 1).y.a, .int .u64 (pt3 na nb 1).y.b, .int .u64 (pt3 na nb 1).y.c, .int .u64 (pt3 na nb 1).y.d, .int .u64 (pt3 na nb 1).w.a, .int .u64 (pt3 na nb 1).w.b, .int .u64 (pt3 na nb 1).w.c, .int .u64 (pt3 na nb 1).w.d]) (by simp (disch := omega) [aRes, aResL, aRes1])).restr (fun i => decide (i < nx))) (⟨⟨pt3 na nb 1, rfl, pt3_ok _ _ _⟩, ⟨p3, hp3, by simp (disch := first | omega | (simp; done) | (simp; omega)) [hrestr_in, hrestr_out, hrestr_all hd, hupd_same]⟩, by first | omega | (simp at *; omega)⟩)
theorem open_ac (l : List Int) (H : Heap) (nx : Nat) : ACall Tryz.prog 72 [Wd .u8 l] H nx (fun r H' nx' => r = .ptr nx 0 0 ∧ H' = hupd H nx (some (2, [[Wd .u8 l, .int .i64 0]])) ∧ nx' = nx + 1) := by
 refine .b Tryz.func72 6 fun K hK => ?_
 refine .q ?_
 refine .q ?_
 refine .ret ?_
 exact hK _ _ _ _ _ trivial (Fin.mk (r := .ptr nx 0 0) (by simp [aRes, aResL, aRes1])) (⟨rfl, by simp, by simp⟩)

end Go.Proofs.YtaibemhdfhchfaaGreat

/- Walks: FnTurns, walked. -/
namespace Go.Proofs.YtaibemhdfhchfaaGreat
open Go Go.RowKit
set_option linter.unusedSimpArgs false
set_option linter.unusedVariables false
set_option maxRecDepth 100000
attribute [local simp] szT3 byT3 agT3 unT3 zoT3 szT5 byT5 agT5 unT5 zoT5 szT22 byT22 agT22 elT22 unT22 zoT22

theorem big_fc (l : List Int) : FC Tryz.prog 14 [Wd .u8 l] (.bool (decide (1048576 < (l.length : Int)))) := by
 refine .b Tryz.func14 6 (fun nx K hK => ?_)
 refine .q ?_
 refine .q ?_ (by simp (disch := first|omega|(simp only[ln];omega)) [len_Wd (P := Tryz.prog) #[22] rfl elT22]; rfl)
 refine .ret ?_
 exact hK _ _ _ _ trivial (Fin.m)

end Go.Proofs.YtaibemhdfhchfaaGreat

/- Walks: points in order, between, crossings (both). -/
namespace Go.Proofs.YtaibemhdfhchfaaGreat
open Go Go.RowKit
set_option linter.unusedSimpArgs false
set_option linter.unusedVariables false
set_option maxRecDepth 100000
attribute [local simp] szT2 byT2 agT2 unT2 zoT2 szT4 byT4 agT4 unT4 zoT4 szT27 byT27 agT27 flT27 fdT27_0 fdT27_1 fdT27_2 fdT27_3 zoT27 szT29 byT29 agT29 flT29 fdT29_0 fdT29_1 fdT29_2 zoT29 szT108 byT108 agT108 elT108 unT108 zoT108 szT110 byT110 agT110 flT110 fdT110_0 fdT110_1 zoT110 szT112 byT112 agT112 flT112 fdT112_0 fdT112_1 fdT112_2 zoT112 szT125 byT125 agT125 elT125 unT125 zoT125 szT127 byT127 agT127 flT127 fdT127_0 fdT127_1 zoT127 szT129 byT129 agT129 flT129 fdT129_0 fdT129_1 fdT129_2 zoT129

section
attribute [local simp] idf_numS cells_numS numS_fold idf_numI cells_numI numI_fold Pt.av Pt.cells spA spC
end
section
attribute [local simp] idf_numS cells_numS numS_fold idf_numI cells_numI numI_fold Pt.av Pt.cells
end
section
attribute [local simp] idf_numS cells_numS numS_fold idf_numI cells_numI numI_fold Pt.av Pt.cells spA spC
end
section
attribute [local simp] idf_numS cells_numS numS_fold idf_numI cells_numI numI_fold l3A l3C
theorem l3CmpX_fc (p q : Pt) (hp : p.ok) (hq : q.ok) : FC Tryz.prog 92 [l3A p.x.v p.y.v p.w.v, l3A q.x.v q.y.v q.w.v] (.int .i64 (cmX p q)) := by
 have pX := W4.bg hp.1
 have pY := W4.bg hp.2.1
 have pW := W4.bg hp.2.2
 have qX := W4.bg hq.1
 have qY := W4.bg hq.2.1
 have qW := W4.bg hq.2.2
 have hcx : FC Tryz.prog 178 [numS (p.x.v * q.w.v), numS (q.x.v * p.w.v)] (.int .i64 (cmX p q)) := l1Cmp_fc (pX.mul qW) (qX.mul pW) (by omega) (by omega)
 refine .b Tryz.func92 16 (fun nx K hK => ?_) (hi := by simp [idfL, idf, l3A, l3C, idf_Wd'])
 refine .q ?_
 refine .sq fun K2 hK2 => ?_
 refine .d 11 ?_
 refine .k 4 (fun fs3 hfs3 => ?_)
 refine .f (l1Mul_fc pX qW (by omega) (by omega)) hb182 ?_
 refine .k 4 (fun fs4 hfs4 => ?_)
 refine .f (l1Mul_fc qX pW (by omega) (by omega)) hb182 ?_
 refine .f hcx hb178 ?_
 refine .r 11 (by simp only[ln, hfs3, hfs4];omega) ?_
 refine hK2 _ ?_
 refine .ret ?_
 exact hK _ _ _ _ trivial (Fin.m)
end

end Go.Proofs.YtaibemhdfhchfaaGreat

/- Walks: fractions of the program. -/
namespace Go.Proofs.YtaibemhdfhchfaaGreat
open Go Go.RowKit
set_option linter.unusedSimpArgs false
set_option linter.unusedVariables false
set_option maxRecDepth 100000
attribute [local simp] szT4 byT4 agT4 unT4 zoT4 szT25 byT25 agT25 unT25 zoT25 szT108 byT108 agT108 elT108 unT108 zoT108 szT110 byT110 agT110 flT110 fdT110_0 fdT110_1 zoT110 szT118 byT118 agT118 flT118 fdT118_0 fdT118_1 zoT118

section
attribute [local simp] idf_numI cells_numI numI_fold
end
section
attribute [local simp] idf_numI cells_numI numI_fold rtA rtC
set_option maxHeartbeats 2000000 in
theorem rcmp_fc {j : Nat} (a b c d : Int) (ba : Bg j a) (bb : Bg j b) (bc : Bg j c) (bd : Bg j d) (hj : j ≤ 16777216) : FC Tryz.prog 87 [rtA a b, rtA c d] (.int .i64 (cm (a * d) (c * b))) := by
 have hc : FC Tryz.prog 78 [numI (a * d), numI (c * b)] (.int .i64 (cm (a * d) (c * b))) := cmp_fc (ba.mul bd) (bc.mul bb) (by omega) (by omega)
 refine .b Tryz.func87 16 (fun nx K hK => ?_)
 refine .q ?_
 refine .sq fun K2 hK2 => ?_
 refine .d 11 ?_
 refine .k 4 (fun fs3 hfs3 => ?_)
 refine .f (by_fc ba bd (by omega) (by omega)) hb80 ?_
 refine .k 4 (fun fs4 hfs4 => ?_)
 refine .f (by_fc bc bb (by omega) (by omega)) hb80 ?_
 refine .f hc hb78 ?_
 refine .r 11 (by simp only[ln, hfs3, hfs4];omega) ?_
 refine hK2 _ ?_
 refine .ret ?_
 exact hK _ _ _ _ trivial (Fin.m)
end

end Go.Proofs.YtaibemhdfhchfaaGreat

/- Walks: spots and segments. -/
namespace Go.Proofs.YtaibemhdfhchfaaGreat
open Go Go.RowKit
set_option linter.unusedSimpArgs false
set_option linter.unusedVariables false
set_option maxRecDepth 100000
attribute [local simp] szT2 byT2 agT2 unT2 zoT2 szT3 byT3 agT3 unT3 zoT3 szT27 byT27 agT27 flT27 fdT27_0 fdT27_1 fdT27_2 fdT27_3 zoT27 szT29 byT29 agT29 flT29 fdT29_0 fdT29_1 fdT29_2 zoT29 szT38 byT38 agT38 flT38 fdT38_0 fdT38_1 zoT38 szT40 byT40 agT40 flT40 fdT40_0 fdT40_1 zoT40 szT178 byT178 agT178 flT178 fdT178_0 fdT178_1 zoT178 szT180 byT180 agT180 flT180 fdT180_0 fdT180_1 zoT180

theorem eqW2 (p q : Sp) : eqW Tryz.prog 8 38 [.int .i64 p.x, .int .i64 p.y] [.int .i64 q.x, .int .i64 q.y] = some (decide (p = q)) := by
  obtain ⟨a, b⟩ := p
  obtain ⟨a', b'⟩ := q
  have hs : Tryz.prog.stoodInHeld 38 = false := by kernel_rfl
  have hz : szOf Tryz.prog 2 = some 1 := by kernel_rfl
  have ha : aggT Tryz.prog 2 = some false := by kernel_rfl
  have e1 : ∀ (n : Nat) (x y : Int), eqW Tryz.prog (n + 1) 2 [.int .i64 x] [.int .i64 y] = some (x == y) := fun n x y => by
    unfold eqW
    simp only [Tryz.underlying2]
    first | rfl | simp [eqF]
  unfold eqW
  simp only [Tryz.underlying38, hs]
  simp [eqF, hz, ha, e1]
  rw [Bool.eq_iff_iff]
  simp
theorem lsS_dec (p q : Sp) : decide (cmS p q < 0) = lsS p q := by rw [Bool.eq_iff_iff, decide_eq_true_eq]; exact cmS_neg
theorem within_fc (n a b : Int) : FC Tryz.prog 121 [.int .i64 n, .int .i64 a, .int .i64 b] (.bool (decide (a ≤ n) && decide (n ≤ b))) := by
 refine .b Tryz.func121 15 (fun nx K hK => ?_)
 refine .q ?_
 refine .sq fun K2 hK2 => ?_
 cases h : decide (a ≤ n)
 ·refine .r ?_ (by simp (disch := first|omega|(simp only[ln];omega)) [h]; rfl)
  refine hK2 _ ?_
  refine .ret ?_
  exact hK _ _ _ _ trivial ((Fin.m).cast (by rw [h]; rfl))
 ·refine .r ?_ (by simp (disch := first|omega|(simp only[ln];omega)) [h]; rfl)
  refine hK2 _ ?_
  refine .ret ?_
  exact hK _ _ _ _ trivial ((Fin.m).cast (by rw [h]; rfl))
theorem withinM_fc (n : Int) : FC Tryz.prog 121 [.int .i64 n, .int .i64 (-1000000), .int .i64 1000000] (.bool (inM n)) := within_fc n (-1000000) 1000000
section
attribute [local simp] Sp.av Sp.cells Sg.av Sg.cells
theorem spotOkI_fc (p : Sp) : FC Tryz.prog 101 [p.av] (.bool p.good) := by
 refine .b Tryz.func101 11 (fun nx K hK => ?_) (hi := by simp [idfL, idf, Sp.av, Sp.cells, Sg.av, Sg.cells])
 refine .q ?_
 refine .sq fun K2 hK2 => ?_
 cases hx : inM p.x
 ·refine .region ?_
  refine .kf 2 (withinM_fc p.x) hb121 ?_ (by simp (disch := first|omega|(simp only[ln];omega)) [List.take_succ_cons, List.take_zero, hx]; rfl) (ha := by simp (disch := first|omega|(simp only[ln];omega)) [idf_Wd', hx])
  refine .e ?_ (by simp (disch := first|omega|(simp only[ln];omega)) [hx]; rfl)
  refine hK2 _ ?_
  refine .ret ?_
  exact hK _ _ _ _ trivial ((Fin.m).cast (by unfold Sp.good; rw [hx]; rfl))
 ·refine .region ?_
  refine .kf 2 (withinM_fc p.x) hb121 ?_ (by simp (disch := first|omega|(simp only[ln];omega)) [List.take_succ_cons, List.take_zero, hx]; rfl) (ha := by simp (disch := first|omega|(simp only[ln];omega)) [idf_Wd', hx])
  refine .kf 3 (withinM_fc p.y) hb121 ?_ (by simp (disch := first|omega|(simp only[ln];omega)) [List.take_succ_cons, List.take_zero, hx]; rfl) (ha := by simp (disch := first|omega|(simp only[ln];omega)) [idf_Wd', hx])
  refine .e ?_ (by simp (disch := first|omega|(simp only[ln];omega)) [hx]; rfl)
  refine hK2 _ ?_
  refine .ret ?_
  exact hK _ _ _ _ trivial ((Fin.m).cast (by unfold Sp.good; rw [hx]; rfl))
theorem cmpSpots_fc (p q : Sp) : FC Tryz.prog 113 [p.av, q.av] (.int .i64 (cmS p q)) := by
 refine .b Tryz.func113 29 (fun nx K hK => ?_) (hi := by simp [idfL, idf, Sp.av, Sp.cells, Sg.av, Sg.cells])
 refine .q ?_
 refine .sq fun K2 hK2 => ?_
 refine .block ?_
 refine .q ?_ (by simp (disch := first|omega|(simp only[ln];omega)) [eqW2]; rfl)
 refine .c (t := decide (p = q)) (fun h5 => ?_) (fun h5 => ?_)
 ·try simp only[dc]at h5
  refine .q ?_
  refine .ret ?_
  exact hK _ _ _ _ trivial ((Fin.m).cast (by unfold cmS; rw [if_pos h5]))
 ·try simp only[dc]at h5
  have hv : cmS p q = if lsS p q = true then -1 else 1 := by unfold cmS; rw [if_neg h5]
  refine .sq fun K5 hK5 => ?_
  by_cases q1 : p.x < q.x
  ·have hl : lsS p q = true := by simp [lsS, q1]
   have c1 : decide (p.x < q.x) = true := by simp [q1]
   refine .r ?_ (by simp (disch := first|omega|(simp only[ln];omega)) [c1]; rfl)
   refine hK5 _ ?_
   refine .c (fun h9 => ?_) (fun h9 => ?_)
   ·try simp only[dc]at h9
    refine .q ?_
    refine .ret ?_
    exact hK _ _ _ _ trivial ((Fin.m).cast (by rw [hv, hl]; rfl))
   ·simp at h9
  ·have c1 : decide (p.x < q.x) = false := by simp; omega
   by_cases q2 : p.x = q.x
   ·have c2 : (p.x == q.x) = true := by simp [q2]
    refine .r ?_ (by simp (disch := first|omega|(simp only[ln];omega)) [c1, c2]; rfl)
    refine hK5 _ ?_
    refine .c (t := decide (p.y < q.y)) (fun h9 => ?_) (fun h9 => ?_)
    ·try simp only[dc]at h9
     refine .q ?_
     refine .ret ?_
     exact hK _ _ _ _ trivial ((Fin.m).cast (by rw [hv, show lsS p q = true by simp [lsS, q2, h9]]; rfl))
    ·try simp only[dc]at h9
     refine .skip ?_
     refine hK2 _ ?_
     refine .q ?_
     refine .ret ?_
     exact hK _ _ _ _ trivial ((Fin.m).cast (by rw [hv, show lsS p q = false by simp [lsS, q2]; omega]; rfl))
   ·have c2 : (p.x == q.x) = false := by simp [q2]
    refine .r ?_ (by simp (disch := first|omega|(simp only[ln];omega)) [c1, c2]; rfl)
    refine hK5 _ ?_
    refine .c (fun h9 => ?_) (fun h9 => ?_)
    ·simp at h9
    ·try simp only[dc]at h9
     refine .skip ?_
     refine hK2 _ ?_
     refine .q ?_
     refine .ret ?_
     exact hK _ _ _ _ trivial ((Fin.m).cast (by rw [hv, show lsS p q = false by simp [lsS, q2]; omega]; rfl))
theorem segOkI_fc (s : Sg) : FC Tryz.prog 95 [s.av] (.bool s.good) := by
 refine .b Tryz.func95 19 (fun nx K hK => ?_) (hi := by simp [idfL, idf, Sp.av, Sp.cells, Sg.av, Sg.cells])
 refine .q ?_
 refine .sq fun K2 hK2 => ?_
 cases ha : s.a.good
 ·refine .region ?_
  refine .kf 2 (spotOkI_fc s.a) hb101 ?_ (by simp (disch := first|omega|(simp only[ln];omega)) [List.take_succ_cons, List.take_zero, ha]; rfl) (ha := by simp (disch := first|omega|(simp only[ln];omega)) [idf_Wd', ha])
  refine .e ?_ (by simp (disch := first|omega|(simp only[ln];omega)) [ha]; rfl)
  refine hK2 _ ?_
  refine .ret ?_
  exact hK _ _ _ _ trivial ((Fin.m).cast (by unfold Sg.good; rw [ha]; rfl))
 ·cases hb : s.b.good
  ·refine .region ?_
   refine .kf 2 (spotOkI_fc s.a) hb101 ?_ (by simp (disch := first|omega|(simp only[ln];omega)) [List.take_succ_cons, List.take_zero, ha, hb]; rfl) (ha := by simp (disch := first|omega|(simp only[ln];omega)) [idf_Wd', ha, hb])
   refine .kf 3 (spotOkI_fc s.b) hb101 ?_ (by simp (disch := first|omega|(simp only[ln];omega)) [List.take_succ_cons, List.take_zero, ha, hb]; rfl) (ha := by simp (disch := first|omega|(simp only[ln];omega)) [idf_Wd', ha, hb])
   refine .e ?_ (by simp (disch := first|omega|(simp only[ln];omega)) [ha, hb]; rfl)
   refine hK2 _ ?_
   refine .ret ?_
   exact hK _ _ _ _ trivial ((Fin.m).cast (by unfold Sg.good; rw [ha, hb]; rfl))
  ·refine .region ?_
   refine .kf 2 (spotOkI_fc s.a) hb101 ?_ (by simp (disch := first|omega|(simp only[ln];omega)) [List.take_succ_cons, List.take_zero, ha, hb, lsS_dec]; rfl) (ha := by simp (disch := first|omega|(simp only[ln];omega)) [idf_Wd', ha, hb, lsS_dec])
   refine .kf 3 (spotOkI_fc s.b) hb101 ?_ (by simp (disch := first|omega|(simp only[ln];omega)) [List.take_succ_cons, List.take_zero, ha, hb, lsS_dec]; rfl) (ha := by simp (disch := first|omega|(simp only[ln];omega)) [idf_Wd', ha, hb, lsS_dec])
   refine .kf 6 (cmpSpots_fc s.a s.b) hb113 ?_ (by simp (disch := first|omega|(simp only[ln];omega)) [List.take_succ_cons, List.take_zero, ha, hb, lsS_dec]; rfl) (ha := by simp (disch := first|omega|(simp only[ln];omega)) [idf_Wd', ha, hb, lsS_dec])
   refine .e ?_ (by simp (disch := first|omega|(simp only[ln];omega)) [ha, hb, lsS_dec]; rfl)
   refine hK2 _ ?_
   refine .ret ?_
   exact hK _ _ _ _ trivial ((Fin.m).cast (by unfold Sg.good; rw [ha, hb]; rfl))
end
theorem signI_fc (n : Int) : FC Tryz.prog 88 [.int .i64 n] (.int .i64 (sg3 n)) := by
 refine .b Tryz.func88 9 (fun nx K hK => ?_)
 refine .q ?_
 refine .sq fun K2 hK2 => ?_
 refine .block ?_
 refine .q ?_
 refine .c (t := decide (n < 0)) (fun h3 => ?_) (fun h3 => ?_)
 ·try simp only[dc]at h3
  refine .q ?_
  refine .ret ?_
  exact hK _ _ _ _ trivial ((Fin.m).cast (by unfold sg3; rw [if_pos h3]))
 ·try simp only[dc]at h3
  refine .q ?_
  refine .c (t := decide (0 < n)) (fun h6 => ?_) (fun h6 => ?_)
  ·try simp only[dc]at h6
   refine .q ?_
   refine .ret ?_
   exact hK _ _ _ _ trivial ((Fin.m).cast (by unfold sg3; rw [if_neg h3, if_pos h6]))
  ·try simp only[dc]at h6
   refine .skip ?_
   refine hK2 _ ?_
   refine .q ?_
   refine .ret ?_
   exact hK _ _ _ _ trivial ((Fin.m).cast (by unfold sg3; rw [if_neg h3, if_neg h6]))
section
attribute [local simp] Sp.av Sp.cells Sg.av Sg.cells
end

end Go.Proofs.YtaibemhdfhchfaaGreat

/- Walks: where segments meet, by the reference; FnExactMeet. -/
namespace Go.Proofs.YtaibemhdfhchfaaGreat
open Go Go.RowKit
set_option linter.unusedSimpArgs false
set_option linter.unusedVariables false
set_option maxRecDepth 100000
attribute [local simp] szT2 byT2 agT2 unT2 zoT2 szT4 byT4 agT4 unT4 zoT4 szT38 byT38 agT38 flT38 fdT38_0 fdT38_1 zoT38 szT40 byT40 agT40 flT40 fdT40_0 fdT40_1 zoT40 szT125 byT125 agT125 elT125 unT125 zoT125 szT127 byT127 agT127 flT127 fdT127_0 fdT127_1 zoT127 szT129 byT129 agT129 flT129 fdT129_0 fdT129_1 fdT129_2 zoT129

theorem l1In_fc (n a b : Int) : FC Tryz.prog 128 [.int .i64 n, .int .i64 a, .int .i64 b] (.bool (decide (a ≤ n) && decide (n ≤ b))) := by
 refine .b Tryz.func128 15 (fun nx K hK => ?_)
 refine .q ?_
 refine .sq fun K2 hK2 => ?_
 cases h : decide (a ≤ n)
 ·refine .r ?_ (by simp (disch := first|omega|(simp only[ln];omega)) [h]; rfl)
  refine hK2 _ ?_
  refine .ret ?_
  exact hK _ _ _ _ trivial ((Fin.m).cast (by rw [h]; rfl))
 ·refine .r ?_ (by simp (disch := first|omega|(simp only[ln];omega)) [h]; rfl)
  refine hK2 _ ?_
  refine .ret ?_
  exact hK _ _ _ _ trivial ((Fin.m).cast (by rw [h]; rfl))
theorem l1InM_fc (n : Int) : FC Tryz.prog 128 [.int .i64 n, .int .i64 (-1000000), .int .i64 1000000] (.bool (inM n)) := l1In_fc n (-1000000) 1000000
section
attribute [local simp] Sp.av Sp.cells Sg.av Sg.cells
theorem spotOkS_fc (p : Sp) : FC Tryz.prog 105 [p.av] (.bool p.good) := by
 refine .b Tryz.func105 11 (fun nx K hK => ?_) (hi := by simp [idfL, idf, Sp.av, Sp.cells, Sg.av, Sg.cells])
 refine .q ?_
 refine .sq fun K2 hK2 => ?_
 cases hx : inM p.x
 ·refine .region ?_
  refine .kf 2 (l1InM_fc p.x) hb128 ?_ (by simp (disch := first|omega|(simp only[ln];omega)) [List.take_succ_cons, List.take_zero, hx]; rfl) (ha := by simp (disch := first|omega|(simp only[ln];omega)) [idf_Wd', hx])
  refine .e ?_ (by simp (disch := first|omega|(simp only[ln];omega)) [hx]; rfl)
  refine hK2 _ ?_
  refine .ret ?_
  exact hK _ _ _ _ trivial ((Fin.m).cast (by unfold Sp.good; rw [hx]; rfl))
 ·refine .region ?_
  refine .kf 2 (l1InM_fc p.x) hb128 ?_ (by simp (disch := first|omega|(simp only[ln];omega)) [List.take_succ_cons, List.take_zero, hx]; rfl) (ha := by simp (disch := first|omega|(simp only[ln];omega)) [idf_Wd', hx])
  refine .kf 3 (l1InM_fc p.y) hb128 ?_ (by simp (disch := first|omega|(simp only[ln];omega)) [List.take_succ_cons, List.take_zero, hx]; rfl) (ha := by simp (disch := first|omega|(simp only[ln];omega)) [idf_Wd', hx])
  refine .e ?_ (by simp (disch := first|omega|(simp only[ln];omega)) [hx]; rfl)
  refine hK2 _ ?_
  refine .ret ?_
  exact hK _ _ _ _ trivial ((Fin.m).cast (by unfold Sp.good; rw [hx]; rfl))
theorem l4Less_fc (p q : Sp) : FC Tryz.prog 191 [p.av, q.av] (.bool (lsS p q)) := by
 refine .b Tryz.func191 24 (fun nx K hK => ?_) (hi := by simp [idfL, idf, Sp.av, Sp.cells, Sg.av, Sg.cells])
 refine .q ?_
 refine .sq fun K2 hK2 => ?_
 by_cases q1 : p.x < q.x
 ·have hl : lsS p q = true := by simp [lsS, q1]
  have c1 : decide (p.x < q.x) = true := by simp [q1]
  refine .r ?_ (by simp (disch := first|omega|(simp only[ln];omega)) [c1]; rfl)
  refine hK2 _ ?_
  refine .ret ?_
  exact hK _ _ _ _ trivial ((Fin.m).cast (by rw [hl]; try rfl))
 ·have c1 : decide (p.x < q.x) = false := by simp; omega
  by_cases q2 : p.x = q.x
  ·have c2 : (p.x == q.x) = true := by simp [q2]
   have hl : lsS p q = decide (p.y < q.y) := by simp [lsS, q2]
   refine .r ?_ (by simp (disch := first|omega|(simp only[ln];omega)) [c1, c2]; rfl)
   refine hK2 _ ?_
   refine .ret ?_
   exact hK _ _ _ _ trivial ((Fin.m).cast (by rw [hl]))
  ·have c2 : (p.x == q.x) = false := by simp [q2]
   have hl : lsS p q = false := by simp [lsS, q2]; omega
   refine .r ?_ (by simp (disch := first|omega|(simp only[ln];omega)) [c1, c2]; rfl)
   refine hK2 _ ?_
   refine .ret ?_
   exact hK _ _ _ _ trivial ((Fin.m).cast (by rw [hl]; try rfl))
theorem segOkS_fc (s : Sg) : FC Tryz.prog 234 [s.av] (.bool s.good) := by
 refine .b Tryz.func234 18 (fun nx K hK => ?_) (hi := by simp [idfL, idf, Sp.av, Sp.cells, Sg.av, Sg.cells])
 refine .q ?_
 refine .sq fun K2 hK2 => ?_
 cases ha : s.a.good
 ·refine .region ?_
  refine .kf 2 (spotOkS_fc s.a) hb105 ?_ (by simp (disch := first|omega|(simp only[ln];omega)) [List.take_succ_cons, List.take_zero, ha]; rfl) (ha := by simp (disch := first|omega|(simp only[ln];omega)) [idf_Wd', ha])
  refine .e ?_ (by simp (disch := first|omega|(simp only[ln];omega)) [ha]; rfl)
  refine hK2 _ ?_
  refine .ret ?_
  exact hK _ _ _ _ trivial ((Fin.m).cast (by unfold Sg.good; rw [ha]; rfl))
 ·cases hb : s.b.good
  ·refine .region ?_
   refine .kf 2 (spotOkS_fc s.a) hb105 ?_ (by simp (disch := first|omega|(simp only[ln];omega)) [List.take_succ_cons, List.take_zero, ha, hb]; rfl) (ha := by simp (disch := first|omega|(simp only[ln];omega)) [idf_Wd', ha, hb])
   refine .kf 3 (spotOkS_fc s.b) hb105 ?_ (by simp (disch := first|omega|(simp only[ln];omega)) [List.take_succ_cons, List.take_zero, ha, hb]; rfl) (ha := by simp (disch := first|omega|(simp only[ln];omega)) [idf_Wd', ha, hb])
   refine .e ?_ (by simp (disch := first|omega|(simp only[ln];omega)) [ha, hb]; rfl)
   refine hK2 _ ?_
   refine .ret ?_
   exact hK _ _ _ _ trivial ((Fin.m).cast (by unfold Sg.good; rw [ha, hb]; rfl))
  ·refine .region ?_
   refine .kf 2 (spotOkS_fc s.a) hb105 ?_ (by simp (disch := first|omega|(simp only[ln];omega)) [List.take_succ_cons, List.take_zero, ha, hb, lsS_dec]; rfl) (ha := by simp (disch := first|omega|(simp only[ln];omega)) [idf_Wd', ha, hb, lsS_dec])
   refine .kf 3 (spotOkS_fc s.b) hb105 ?_ (by simp (disch := first|omega|(simp only[ln];omega)) [List.take_succ_cons, List.take_zero, ha, hb, lsS_dec]; rfl) (ha := by simp (disch := first|omega|(simp only[ln];omega)) [idf_Wd', ha, hb, lsS_dec])
   refine .kf 6 (l4Less_fc s.a s.b) hb191 ?_ (by simp (disch := first|omega|(simp only[ln];omega)) [List.take_succ_cons, List.take_zero, ha, hb, lsS_dec]; rfl) (ha := by simp (disch := first|omega|(simp only[ln];omega)) [idf_Wd', ha, hb, lsS_dec])
   refine .e ?_ (by simp (disch := first|omega|(simp only[ln];omega)) [ha, hb, lsS_dec]; rfl)
   refine hK2 _ ?_
   refine .ret ?_
   exact hK _ _ _ _ trivial ((Fin.m).cast (by unfold Sg.good; rw [ha, hb]; rfl))
end
section
attribute [local simp] idf_numS cells_numS numS_fold Sp.av Sp.cells Sg.av Sg.cells l3A l3C
end

end Go.Proofs.YtaibemhdfhchfaaGreat

/- Walks: segments that are quiet; FnExactQuiet, walked. -/
namespace Go.Proofs.YtaibemhdfhchfaaGreat
open Go Go.RowKit
set_option linter.unusedSimpArgs false
set_option linter.unusedVariables false
set_option maxRecDepth 100000
attribute [local simp] szT2 byT2 agT2 unT2 zoT2 szT3 byT3 agT3 unT3 zoT3 szT24 byT24 agT24 elT24 unT24 zoT24 szT38 byT38 agT38 flT38 fdT38_0 fdT38_1 zoT38 szT40 byT40 agT40 flT40 fdT40_0 fdT40_1 zoT40

theorem gse_at {L : List Sg} {i : Nat} (h : i < L.length) : (L.map Sg.cells)[i]? = some [.int .i64 (gse L i).a.x, .int .i64 (gse L i).a.y, .int .i64 (gse L i).b.x, .int .i64 (gse L i).b.y] := by rw [List.getElem?_map, gse_get h]; rfl

section
attribute [local simp] Sp.av Sp.cells Sg.av Sg.cells
set_option maxHeartbeats 1000000 in
theorem segsFaultI_fc (L : List Sg) (hl : L.length ≤ 1099511627776) : FC Tryz.prog 43 [.isl (L.map Sg.cells)] (.int .i64 (sgF L : Int)) := by
 refine .b Tryz.func43 18 (fun nx K hK => ?_) (hi := by simp [idfL, idf, idfLL_iff, Sp.av, Sp.cells, Sg.av, Sg.cells])
 refine .q ?_
 refine .sq fun K2 hK2 => ?_
 refine .q ?_ (by simp (disch := first|omega|(simp only[ln];omega)) [List.length_map]; rfl)
 refine .c (t := decide (40 < (L.length : Int))) (fun h7 => ?_) (fun h7 => ?_)
 ·try simp only[dc]at h7
  refine .q ?_
  refine .ret ?_
  exact hK _ _ _ _ trivial ((Fin.m).cast (by rw [sgF_many (by omega)]))
 ·try simp only[dc]at h7
  have h40 : ¬ 40 < L.length := by omega
  refine .skip ?_
  refine hK2 _ ?_
  refine .sq fun K5 hK5 => ?_
  refine .q ?_ (by simp (disch := first|omega|(simp only[ln];omega)) [List.length_map]; rfl)
  refine .block ?_
  
  refine .loop (fun N s => ∃ i : Nat, N = L.length - i ∧ i ≤ L.length ∧ (∀ j, j < i → (gse L j).good = true) ∧ s.env 8 = .isl (L.map Sg.cells) ∧ s.env 9 = .int .i64 (L.length : Int) ∧ s.env 10 = .int .i64 (i : Int) ∧ s.nt = 18) (L.length) (by refine ⟨0, by omega, by omega, fun j h => by omega, ?_, ?_, ?_, rfl⟩ <;> first|(simp (disch := omega);done)|omega|(simp;done)|(simp;omega)) ?_
  rintro N ⟨e, H, mm, nt⟩ ⟨i, rfl, hi, hgd, g8, g9, g10, rfl⟩
  simp only [] at g8 g9 g10
  refine .q ?_ (by simp (disch := first|omega|(simp only[ln];omega)) [g8, g9, g10, List.length_map]; rfl)
  refine .sq fun K8 hK8 => ?_
  refine .c (fun h11 => ?_) (fun h11 => ?_)
  ·try simp only[dc]at h11
   have hi' : i < L.length := by omega
   have hat := gse_at hi'
   refine .skip ?_
   refine hK8 _ ?_
   refine .sq fun K9 hK9 => ?_
   refine .block ?_
   refine .q ?_ (by simp (disch := first|omega|(simp only[ln];omega)) [if_pos, g8, g10, hat, List.length_map]; rfl)
   refine .sq fun K11 hK11 => ?_
   refine .region ?_
   refine .kf 1 (segOkI_fc (gse L i)) hb95 ?_ (by simp (disch := first|omega|(simp only[ln];omega)) [List.take_succ_cons, List.take_zero, g8, g9, g10, hat, List.length_map]; rfl) (ha := by simp (disch := first|omega|(simp only[ln];omega)) [idf_Wd', g8, g9, g10, hat, List.length_map])
   refine .e ?_ (by simp (disch := first|omega|(simp only[ln];omega)) [g8, g9, g10, hat, List.length_map]; rfl)
   refine hK11 _ ?_
   refine .c (t := !(gse L i).good) (fun h16 => ?_) (fun h16 => ?_)
   ·try simp only[dc]at h16
    have hb : ¬ (gse L i).good = true := by simpa using h16
    refine .q ?_
    refine .ret ?_
    exact hK _ _ _ _ trivial ((Fin.m).cast (by rw [sgF_bad h40 (gse_mem hi') hb]))
   ·try simp only[dc]at h16
    have hg1 : (gse L i).good = true := by simpa using h16
    refine .skip ?_
    refine hK9 _ ?_
    refine .r ?_ (by simp (disch := first|omega|(simp only[ln];omega)) [g10]; rfl)
    refine ⟨L.length - (i + 1), by omega, i + 1, rfl, by omega, fun j h => by rcases Nat.lt_succ_iff_lt_or_eq.1 h with h | h; exact hgd j h; rw [h]; exact hg1, ?_, ?_, ?_, rfl⟩ <;> first|(simp (disch := omega) [g8, g9, g10];done)|omega|(simp;done)|(simp;omega)
  ·try simp only[dc]at h11
   have hG : sgGood L := sgGood_of (by omega) hgd
   refine .exit ?_
   refine hK5 _ ?_
   refine .q ?_
   refine .ret ?_
   exact hK _ _ _ _ trivial ((Fin.m).cast (by rw [sgF_ok h40 hG]))
theorem areSegs_fc (L : List Sg) (hl : L.length ≤ 1099511627776) : FC Tryz.prog 75 [.isl (L.map Sg.cells)] (.bool (decide (sgF L = 0))) := by
 refine .b Tryz.func75 6 (fun nx K hK => ?_) (hi := by simp [idfL, idf, idfLL_iff, Sp.av, Sp.cells, Sg.av, Sg.cells])
 refine .q ?_
 refine .sq fun K2 hK2 => ?_
 refine .region ?_
 refine .kf 1 (segsFaultI_fc L hl) hb43 ?_
 refine .e ?_
 refine hK2 _ ?_
 refine .ret ?_
 exact hK _ _ _ _ trivial ((Fin.m).cast (by rw [beqdI]))
set_option maxHeartbeats 1000000 in
theorem segsFaultS_fc (L : List Sg) (hl : L.length ≤ 1099511627776) : FC Tryz.prog 175 [.isl (L.map Sg.cells)] (.int .i64 (sgF L : Int)) := by
 refine .b Tryz.func175 19 (fun nx K hK => ?_) (hi := by simp [idfL, idf, idfLL_iff, Sp.av, Sp.cells, Sg.av, Sg.cells])
 refine .q ?_
 refine .sq fun K2 hK2 => ?_
 refine .q ?_ (by simp (disch := first|omega|(simp only[ln];omega)) [List.length_map]; rfl)
 refine .c (t := decide (40 < (L.length : Int))) (fun h6 => ?_) (fun h6 => ?_)
 ·try simp only[dc]at h6
  refine .q ?_
  refine .ret ?_
  exact hK _ _ _ _ trivial ((Fin.m).cast (by rw [sgF_many (by omega)]))
 ·try simp only[dc]at h6
  have h40 : ¬ 40 < L.length := by omega
  refine .skip ?_
  refine hK2 _ ?_
  refine .sq fun K5 hK5 => ?_
  refine .q ?_ (by simp (disch := first|omega|(simp only[ln];omega)) [List.length_map]; rfl)
  refine .block ?_
  
  refine .loop (fun N s => ∃ i : Nat, N = L.length - i ∧ i ≤ L.length ∧ (∀ j, j < i → (gse L j).good = true) ∧ s.env 0 = .isl (L.map Sg.cells) ∧ s.env 3 = .int .i64 (i : Int) ∧ s.nt = 19) (L.length) (by refine ⟨0, by omega, by omega, fun j h => by omega, ?_, ?_, rfl⟩ <;> first|(simp (disch := omega);done)|omega|(simp;done)|(simp;omega)) ?_
  rintro N ⟨e, H, mm, nt⟩ ⟨i, rfl, hi, hgd, g0, g3, rfl⟩
  simp only [] at g0 g3
  refine .sq fun K7 hK7 => ?_
  refine .q ?_ (by simp (disch := first|omega|(simp only[ln];omega)) [g0, g3, List.length_map]; rfl)
  refine .c (fun h10 => ?_) (fun h10 => ?_)
  ·try simp only[dc]at h10
   have hi' : i < L.length := by omega
   have hat := gse_at hi'
   refine .skip ?_
   refine hK7 _ ?_
   refine .sq fun K9 hK9 => ?_
   refine .block ?_
   refine .sq fun K10 hK10 => ?_
   refine .region ?_
   refine .kf 4 (segOkS_fc (gse L i)) hb234 ?_ (by simp (disch := first|omega|(simp only[ln];omega)) [List.take_succ_cons, List.take_zero, if_pos, g0, g3, hat, List.length_map]; rfl) (ha := by simp (disch := first|omega|(simp only[ln];omega)) [idf_Wd', if_pos, g0, g3, hat, List.length_map])
   refine .e ?_ (by simp (disch := first|omega|(simp only[ln];omega)) [if_pos, g0, g3, hat, List.length_map]; rfl)
   refine hK10 _ ?_
   refine .c (t := !(gse L i).good) (fun h18 => ?_) (fun h18 => ?_)
   ·try simp only[dc]at h18
    have hb : ¬ (gse L i).good = true := by simpa using h18
    refine .q ?_
    refine .ret ?_
    exact hK _ _ _ _ trivial ((Fin.m).cast (by rw [sgF_bad h40 (gse_mem hi') hb]))
   ·try simp only[dc]at h18
    have hg1 : (gse L i).good = true := by simpa using h18
    refine .skip ?_
    refine hK9 _ ?_
    refine .r ?_ (by simp (disch := first|omega|(simp only[ln];omega)) [g3]; rfl)
    refine ⟨L.length - (i + 1), by omega, i + 1, rfl, by omega, fun j h => by rcases Nat.lt_succ_iff_lt_or_eq.1 h with h | h; exact hgd j h; rw [h]; exact hg1, ?_, ?_, rfl⟩ <;> first|(simp (disch := omega) [g0, g3];done)|omega|(simp;done)|(simp;omega)
  ·try simp only[dc]at h10
   have hG : sgGood L := sgGood_of (by omega) hgd
   refine .exit ?_
   refine hK5 _ ?_
   refine .q ?_
   refine .ret ?_
   exact hK _ _ _ _ trivial ((Fin.m).cast (by rw [sgF_ok h40 hG]))
theorem l7Ok_fc (L : List Sg) (hl : L.length ≤ 1099511627776) : FC Tryz.prog 89 [.isl (L.map Sg.cells)] (.bool (decide (sgF L = 0))) := by
 refine .b Tryz.func89 6 (fun nx K hK => ?_) (hi := by simp [idfL, idf, idfLL_iff, Sp.av, Sp.cells, Sg.av, Sg.cells])
 refine .q ?_
 refine .sq fun K2 hK2 => ?_
 refine .region ?_
 refine .kf 1 (segsFaultS_fc L hl) hb175 ?_
 refine .e ?_
 refine hK2 _ ?_
 refine .ret ?_
 exact hK _ _ _ _ trivial ((Fin.m).cast (by rw [beqdI]))
end

end Go.Proofs.YtaibemhdfhchfaaGreat

/- Walks: drawn segments. -/
namespace Go.Proofs.YtaibemhdfhchfaaGreat
open Go Go.RowKit
set_option linter.unusedSimpArgs false
set_option linter.unusedVariables false
set_option maxRecDepth 100000
attribute [local simp] szT2 byT2 agT2 unT2 zoT2 szT3 byT3 agT3 unT3 zoT3 szT32 byT32 agT32 elT32 unT32 zoT32 szT38 byT38 agT38 flT38 fdT38_0 fdT38_1 zoT38 szT40 byT40 agT40 flT40 fdT40_0 fdT40_1 zoT40

def tabO : List Int := [-1000001, 1000001, -9223372036854775808, 9223372036854775807]
theorem tabO_b (k : Nat) : I64 (gt tabO k) := by
  have h : ∀ x ∈ tabO, -9223372036854775808 ≤ x ∧ x ≤ 9223372036854775807 := by decide
  unfold gt I64
  cases hk : tabO[k]? with
  | none => simp
  | some x => simpa using h x (List.mem_of_getElem? hk)
def sgZ : Sg := ⟨⟨0, 0⟩, ⟨0, 0⟩⟩
def segS (a b : Sp) : Sg × Bool := if (segO a b).good = true then (segO a b, true) else (sgZ, false)
theorem segO_ok {a b : Sp} (ha : a.ok) (hb : b.ok) : (segO a b).ok := by unfold segO; split; exact ⟨hb, ha⟩; exact ⟨ha, hb⟩
theorem sgZ_ok : sgZ.ok := by unfold Sg.ok Sp.ok I64 sgZ; simp
theorem segS_ok {a b : Sp} (ha : a.ok) (hb : b.ok) : (segS a b).1.ok := by unfold segS; split; exact segO_ok ha hb; exact sgZ_ok

section
attribute [local simp] Sp.av Sp.cells Sg.av Sg.cells
set_option maxHeartbeats 2000000 in
theorem segOfS_fc (a b : Sp) : FC Tryz.prog 156 [a.av, b.av] (.tup [.agg [.int .i64 ((segS a b).1).a.x, .int .i64 ((segS a b).1).a.y, .int .i64 ((segS a b).1).b.x, .int .i64 ((segS a b).1).b.y], .bool (segS a b).2]) := by
 refine .b Tryz.func156 20 (fun nx K hK => ?_) (hi := by simp [idfL, idf, Sp.av, Sp.cells, Sg.av, Sg.cells])
 refine .q ?_
 refine .sq fun K2 hK2 => ?_
 refine .sq fun K3 hK3 => ?_
 cases hl : lsS b a
 ·have es : segO a b = ⟨a, b⟩ := by unfold segO; rw [hl]; rfl
  refine .region ?_
  refine .kf 2 (l4Less_fc b a) hb191 ?_ (by simp (disch := first|omega|(simp only[ln];omega)) [List.take_succ_cons, List.take_zero, hl]; rfl) (ha := by simp (disch := first|omega|(simp only[ln];omega)) [idf_Wd', hl])
  refine .nil ?_
  refine hK3 _ ?_
  refine .c (fun h9 => ?_) (fun h9 => ?_)
  ·simp [hl] at h9
  ·try simp only[dc]at h9
   refine .skip ?_
   refine hK2 _ ?_
   refine .q ?_
   refine .sq fun K5 hK5 => ?_
   refine .sq fun K6 hK6 => ?_
   refine .region ?_
   refine .kf 1 (segOkS_fc ⟨a, b⟩) hb234 ?_
   refine .e ?_
   refine hK6 _ ?_
   refine .c (t := !(Sg.good ⟨a, b⟩)) (fun h17 => ?_) (fun h17 => ?_)
   ·try simp only[dc]at h17
    have hg : (segO a b).good = false := by rw [es]; simpa using h17
    refine .q ?_
    refine .ret ?_
    exact hK _ _ _ _ trivial ((Fin.m).cast (by unfold segS; rw [hg]; rfl))
   ·try simp only[dc]at h17
    have hg : (segO a b).good = true := by rw [es]; simpa using h17
    refine .skip ?_
    refine hK5 _ ?_
    refine .q ?_
    refine .ret ?_
    exact hK _ _ _ _ trivial ((Fin.m).cast (by unfold segS; rw [if_pos hg, es]; try rfl))
 ·have es : segO a b = ⟨b, a⟩ := by unfold segO; rw [hl]; rfl
  refine .region ?_
  refine .kf 2 (l4Less_fc b a) hb191 ?_ (by simp (disch := first|omega|(simp only[ln];omega)) [List.take_succ_cons, List.take_zero, hl]; rfl) (ha := by simp (disch := first|omega|(simp only[ln];omega)) [idf_Wd', hl])
  refine .nil ?_
  refine hK3 _ ?_
  refine .c (fun h9 => ?_) (fun h9 => ?_)
  ·try simp only[dc]at h9
   refine .r ?_
   refine hK2 _ ?_
   refine .q ?_
   refine .sq fun K10 hK10 => ?_
   refine .sq fun K11 hK11 => ?_
   refine .region ?_
   refine .kf 1 (segOkS_fc ⟨b, a⟩) hb234 ?_
   refine .e ?_
   refine hK11 _ ?_
   refine .c (t := !(Sg.good ⟨b, a⟩)) (fun h17 => ?_) (fun h17 => ?_)
   ·try simp only[dc]at h17
    have hg : (segO a b).good = false := by rw [es]; simpa using h17
    refine .q ?_
    refine .ret ?_
    exact hK _ _ _ _ trivial ((Fin.m).cast (by unfold segS; rw [hg]; rfl))
   ·try simp only[dc]at h17
    have hg : (segO a b).good = true := by rw [es]; simpa using h17
    refine .skip ?_
    refine hK10 _ ?_
    refine .q ?_
    refine .ret ?_
    exact hK _ _ _ _ trivial ((Fin.m).cast (by unfold segS; rw [if_pos hg, es]; try rfl))
  ·simp [hl] at h9
end
set_option maxHeartbeats 2000000 in
theorem off_ac (l : List Int) (p id : Nat) (H : Heap) (nx : Nat) (dl : Dig 256 l) (hl : l.length ≤ 1048576) (hp : p ≤ l.length) (hH : H id = some (2, [[Wd .u8 l, .int .i64 (p : Int)]])) (hd : ∀ i q, H i = some q → i < nx) : ACall Tryz.prog 120 [.ptr id 0 0, .int .i64 (-1000000), .int .i64 1000000] H nx (fun r H' nx' => (∃ k : Int, r = .int .i64 k ∧ I64 k) ∧ (∃ p' : Nat, p' ≤ l.length ∧ H' = hupd H id (some (2, [[Wd .u8 l, .int .i64 (p' : Int)]]))) ∧ nx ≤ nx') := by
 have hid := hd id _ hH
 have tOl : tabO.length = 4 := rfl
 refine .b Tryz.func120 22 fun K hK => ?_
 refine .q ?_
 refine .sq fun K2 hK2 => ?_
 refine .sq fun K3 hK3 => ?_
 refine .region ?_
 refine .k 1 ?_ (by simp (disch := first|omega|(simp only[ln];omega)) [List.take_succ_cons, List.take_zero, hH]; rfl)
 refine AOPS.old fun hold1 => ?_
 refine .a (once_ac 24 (by omega) (by omega) l p id _ _ dl hl hp (by simp (disch := omega) [hH]) hold1) hb98 ?_ (ha := by simp (disch := first|omega|(simp only[ln];omega)) [idf_Wd', hH])
 rintro _ _ nx2 ⟨⟨b, rfl⟩, ⟨p2, hp2, rfl⟩, hnx2⟩
 try simp only [] at hnx2
 clear hold1
 refine .nil ?_
 refine hK3 _ ?_
 refine .c (t := b) (fun h8 => ?_) (fun h8 => ?_)
 ·try simp only[dc]at h8
  refine .sq fun K4 hK4 => ?_
  refine .region ?_
  refine .k 6 ?_ (by simp (disch := first|omega|(simp only[ln];omega)) [List.take_succ_cons, List.take_zero, idx_WdD (P := Tryz.prog) elT32 szT2, if_pos, tOl]; rfl)
  refine AOPS.frz1 13 nx2 1 (wd .i64 tabO) (Wd .i64 tabO) (by simp; rfl) (by simp; first | exact fz_wd rfl | exact isl_take_wd (by decide)) ?_
  refine AOPS.old fun hold6 => ?_
  refine .a (below_ac 4 (by omega) (by omega) l p2 id _ _ dl hl hp2 (by simp (disch := omega) [hH]) hold6) hb100 ?_ (ha := by simp (disch := first|omega|(simp only[ln];omega)) [idf_Wd', idx_WdD (P := Tryz.prog) elT32 szT2, if_pos, tOl])
  rintro _ _ nx3 ⟨⟨k, rfl, k0, k1⟩, ⟨p3, hp3, rfl⟩, hnx3⟩
  try simp only [] at hnx3
  clear hold6
  have hk : k.toNat < 4 := by omega
  refine .e ?_ (by simp (disch := first|omega|(simp only[ln];omega)) [idx_WdD (P := Tryz.prog) elT32 szT2, if_pos, tOl]; rfl)
  refine hK4 _ ?_
  refine .ret ?_
  exact hK _ _ _ _ _ trivial ((Fin.mk (r := .int .i64 (gt tabO k.toNat)) (by simp (disch := omega) [aRes, aResL, aRes1])).restr (fun i => decide (i < nx))) (⟨⟨gt tabO k.toNat, rfl, tabO_b _⟩, ⟨p3, hp3, by simp (disch := first | omega | (simp; done) | (simp; omega)) [hrestr_in, hrestr_out, hrestr_all hd, hupd_same]⟩, by first | omega | (simp at *; omega)⟩)
 ·try simp only[dc]at h8
  refine .skip ?_
  refine hK2 _ ?_
  refine .sq fun K5 hK5 => ?_
  refine .region ?_
  refine .k 3 ?_
  refine AOPS.old fun hold3 => ?_
  refine .a (near_ac (-1000000) (1000000) (by omega) (by omega) (by omega) l p2 id _ _ dl hl hp2 (by simp (disch := omega) [hH]) hold3) hb162 ?_
  rintro _ _ nx3 ⟨⟨k, rfl, k0, k1⟩, ⟨p3, hp3, rfl⟩, hnx3⟩
  try simp only [] at hnx3
  clear hold3
  refine .e ?_
  refine hK5 _ ?_
  refine .ret ?_
  exact hK _ _ _ _ _ trivial ((Fin.mk (r := .int .i64 k) (by simp (disch := omega) [aRes, aResL, aRes1])).restr (fun i => decide (i < nx))) (⟨⟨k, rfl, by unfold I64; omega⟩, ⟨p3, hp3, by simp (disch := first | omega | (simp; done) | (simp; omega)) [hrestr_in, hrestr_out, hrestr_all hd, hupd_same]⟩, by first | omega | (simp at *; omega)⟩)
section
attribute [local simp] Sp.av Sp.cells Sg.av Sg.cells
set_option maxHeartbeats 8000000 in
theorem seg_ac (l : List Int) (p id : Nat) (H : Heap) (nx : Nat) (dl : Dig 256 l) (hl : l.length ≤ 1048576) (hp : p ≤ l.length) (hH : H id = some (2, [[Wd .u8 l, .int .i64 (p : Int)]])) (hd : ∀ i q, H i = some q → i < nx) : ACall Tryz.prog 157 [.ptr id 0 0] H nx (fun r H' nx' => (∃ s : Sg, r = .agg [.int .i64 (s).a.x, .int .i64 (s).a.y, .int .i64 (s).b.x, .int .i64 (s).b.y] ∧ s.ok) ∧ (∃ p' : Nat, p' ≤ l.length ∧ H' = hupd H id (some (2, [[Wd .u8 l, .int .i64 (p' : Int)]]))) ∧ nx ≤ nx') := by
 have hid := hd id _ hH
 refine .b Tryz.func157 66 fun K hK => ?_
 refine .q ?_
 refine .sq fun K2 hK2 => ?_
 refine .sq fun K3 hK3 => ?_
 refine .region ?_
 refine .k 1 ?_ (by simp (disch := first|omega|(simp only[ln];omega)) [List.take_succ_cons, List.take_zero, hH]; rfl)
 refine AOPS.old fun hold1 => ?_
 refine .a (below_ac 20 (by omega) (by omega) l p id _ _ dl hl hp (by simp (disch := omega) [hH]) hold1) hb100 ?_ (ha := by simp (disch := first|omega|(simp only[ln];omega)) [idf_Wd', hH])
 rintro _ _ nx2 ⟨⟨k, rfl, k0, k1⟩, ⟨p2, hp2, rfl⟩, hnx2⟩
 try simp only [] at hnx2
 clear hold1
 refine .nil ?_
 refine hK3 _ ?_
 refine .block ?_
 refine .q ?_
 refine .c (t := k == 0) (fun h11 => ?_) (fun h11 => ?_)
 ·try simp only[dc]at h11
  refine .sq fun K5 hK5 => ?_
  refine .region ?_
  refine .k 1 ?_
  refine AOPS.old fun hold1 => ?_
  refine .a (off_ac l p2 id _ _ dl hl hp2 (by simp (disch := omega) [hH]) hold1) hb120 ?_
  rintro _ _ nx3 ⟨⟨ka, rfl, kai⟩, ⟨p3, hp3, rfl⟩, hnx3⟩
  try simp only [] at hnx3
  clear hold1
  refine .k 1 ?_
  refine AOPS.old fun hold3 => ?_
  refine .a (off_ac l p3 id _ _ dl hl hp3 (by simp (disch := omega) [hH]) hold3) hb120 ?_
  rintro _ _ nx4 ⟨⟨kb, rfl, kbi⟩, ⟨p4, hp4, rfl⟩, hnx4⟩
  try simp only [] at hnx4
  clear hold3
  refine .k 2 ?_
  refine AOPS.old fun hold6 => ?_
  refine .a (off_ac l p4 id _ _ dl hl hp4 (by simp (disch := omega) [hH]) hold6) hb120 ?_
  rintro _ _ nx5 ⟨⟨kc, rfl, kci⟩, ⟨p5, hp5, rfl⟩, hnx5⟩
  try simp only [] at hnx5
  clear hold6
  refine .k 1 ?_
  refine AOPS.old fun hold8 => ?_
  refine .a (off_ac l p5 id _ _ dl hl hp5 (by simp (disch := omega) [hH]) hold8) hb120 ?_
  rintro _ _ nx6 ⟨⟨kd, rfl, kdi⟩, ⟨p6, hp6, rfl⟩, hnx6⟩
  try simp only [] at hnx6
  clear hold8
  refine .e ?_
  refine hK5 _ ?_
  refine .ret ?_
  exact hK _ _ _ _ _ trivial ((Fin.mk (r := .agg [.int .i64 ((⟨⟨ka, kb⟩, ⟨kc, kd⟩⟩ : Sg)).a.x, .int .i64 ((⟨⟨ka, kb⟩, ⟨kc, kd⟩⟩ : Sg)).a.y, .int .i64 ((⟨⟨ka, kb⟩, ⟨kc, kd⟩⟩ : Sg)).b.x, .int .i64 ((⟨⟨ka, kb⟩, ⟨kc, kd⟩⟩ : Sg)).b.y]) (by simp (disch := omega) [aRes, aResL, aRes1])).restr (fun i => decide (i < nx))) (⟨⟨(⟨⟨ka, kb⟩, ⟨kc, kd⟩⟩ : Sg), rfl, ⟨⟨kai, kbi⟩, ⟨kci, kdi⟩⟩⟩, ⟨p6, hp6, by simp (disch := first | omega | (simp; done) | (simp; omega)) [hrestr_in, hrestr_out, hrestr_all hd, hupd_same]⟩, by first | omega | (simp at *; omega)⟩)
 ·try simp only[dc]at h11
  refine .q ?_
  refine .c (t := k == 1) (fun h24 => ?_) (fun h24 => ?_)
  ·try simp only[dc]at h24
   refine .sq fun K7 hK7 => ?_
   refine .region ?_
   refine .k 1 ?_
   refine AOPS.old fun hold1 => ?_
   refine .a (near_ac (-1000000) (1000000) (by omega) (by omega) (by omega) l p2 id _ _ dl hl hp2 (by simp (disch := omega) [hH]) hold1) hb162 ?_
   rintro _ _ nx3 ⟨⟨ka, rfl, ka0, ka1⟩, ⟨p3, hp3, rfl⟩, hnx3⟩
   try simp only [] at hnx3
   clear hold1
   refine .k 1 ?_
   refine AOPS.old fun hold3 => ?_
   refine .a (near_ac (-1000000) (1000000) (by omega) (by omega) (by omega) l p3 id _ _ dl hl hp3 (by simp (disch := omega) [hH]) hold3) hb162 ?_
   rintro _ _ nx4 ⟨⟨kb, rfl, kb0, kb1⟩, ⟨p4, hp4, rfl⟩, hnx4⟩
   try simp only [] at hnx4
   clear hold3
   refine .k 2 ?_
   refine AOPS.old fun hold6 => ?_
   refine .a (near_ac (-1000000) (1000000) (by omega) (by omega) (by omega) l p4 id _ _ dl hl hp4 (by simp (disch := omega) [hH]) hold6) hb162 ?_
   rintro _ _ nx5 ⟨⟨kc, rfl, kc0, kc1⟩, ⟨p5, hp5, rfl⟩, hnx5⟩
   try simp only [] at hnx5
   clear hold6
   refine .k 1 ?_
   refine AOPS.old fun hold8 => ?_
   refine .a (near_ac (-1000000) (1000000) (by omega) (by omega) (by omega) l p5 id _ _ dl hl hp5 (by simp (disch := omega) [hH]) hold8) hb162 ?_
   rintro _ _ nx6 ⟨⟨kd, rfl, kd0, kd1⟩, ⟨p6, hp6, rfl⟩, hnx6⟩
   try simp only [] at hnx6
   clear hold8
   refine .kf 1 (segOfS_fc ⟨ka, kb⟩ ⟨kc, kd⟩) hb156 ?_
   refine .e ?_
   refine hK7 _ ?_
   refine .q ?_
   refine .ret ?_
   exact hK _ _ _ _ _ trivial ((Fin.mk (r := .agg [.int .i64 ((segS ⟨ka, kb⟩ ⟨kc, kd⟩).1).a.x, .int .i64 ((segS ⟨ka, kb⟩ ⟨kc, kd⟩).1).a.y, .int .i64 ((segS ⟨ka, kb⟩ ⟨kc, kd⟩).1).b.x, .int .i64 ((segS ⟨ka, kb⟩ ⟨kc, kd⟩).1).b.y]) (by simp (disch := omega) [aRes, aResL, aRes1])).restr (fun i => decide (i < nx))) (⟨⟨(segS ⟨ka, kb⟩ ⟨kc, kd⟩).1, rfl, segS_ok ⟨by unfold I64; first | omega | (simp only []; omega), by unfold I64; first | omega | (simp only []; omega)⟩ ⟨by unfold I64; first | omega | (simp only []; omega), by unfold I64; first | omega | (simp only []; omega)⟩⟩, ⟨p6, hp6, by simp (disch := first | omega | (simp; done) | (simp; omega)) [hrestr_in, hrestr_out, hrestr_all hd, hupd_same]⟩, by first | omega | (simp at *; omega)⟩)
  ·try simp only[dc]at h24
   refine .q ?_
   refine .c (t := k == 2) (fun h41 => ?_) (fun h41 => ?_)
   ·try simp only[dc]at h41
    refine .sq fun K10 hK10 => ?_
    refine .region ?_
    refine .k 1 ?_
    refine AOPS.old fun hold1 => ?_
    refine .a (spot_ac l p2 id _ _ dl hl hp2 (by simp (disch := omega) [hH]) hold1) hb155 ?_
    rintro _ _ nx3 ⟨⟨ax, ay, rfl, ax0, ax1, ay0, ay1⟩, ⟨p3, hp3, rfl⟩, hnx3⟩
    try simp only [] at hnx3
    clear hold1
    refine .k 1 ?_
    refine AOPS.old fun hold3 => ?_
    refine .a (spot_ac l p3 id _ _ dl hl hp3 (by simp (disch := omega) [hH]) hold3) hb155 ?_
    rintro _ _ nx4 ⟨⟨cx, cy, rfl, cx0, cx1, cy0, cy1⟩, ⟨p4, hp4, rfl⟩, hnx4⟩
    try simp only [] at hnx4
    clear hold3
    refine .e ?_
    refine hK10 _ ?_
    refine .ret ?_
    exact hK _ _ _ _ _ trivial ((Fin.mk (r := .agg [.int .i64 ((⟨⟨ax, ay⟩, ⟨cx, cy⟩⟩ : Sg)).a.x, .int .i64 ((⟨⟨ax, ay⟩, ⟨cx, cy⟩⟩ : Sg)).a.y, .int .i64 ((⟨⟨ax, ay⟩, ⟨cx, cy⟩⟩ : Sg)).b.x, .int .i64 ((⟨⟨ax, ay⟩, ⟨cx, cy⟩⟩ : Sg)).b.y]) (by simp (disch := omega) [aRes, aResL, aRes1])).restr (fun i => decide (i < nx))) (⟨⟨(⟨⟨ax, ay⟩, ⟨cx, cy⟩⟩ : Sg), rfl, ⟨⟨by unfold I64; first | omega | (simp only []; omega), by unfold I64; first | omega | (simp only []; omega)⟩, ⟨by unfold I64; first | omega | (simp only []; omega), by unfold I64; first | omega | (simp only []; omega)⟩⟩⟩, ⟨p4, hp4, by simp (disch := first | omega | (simp; done) | (simp; omega)) [hrestr_in, hrestr_out, hrestr_all hd, hupd_same]⟩, by first | omega | (simp at *; omega)⟩)
   ·try simp only[dc]at h41
    refine .skip ?_
    refine hK2 _ ?_
    refine .sq fun K11 hK11 => ?_
    refine .region ?_
    refine .k 1 ?_
    refine AOPS.old fun hold1 => ?_
    refine .a (spot_ac l p2 id _ _ dl hl hp2 (by simp (disch := omega) [hH]) hold1) hb155 ?_
    rintro _ _ nx3 ⟨⟨ax, ay, rfl, ax0, ax1, ay0, ay1⟩, ⟨p3, hp3, rfl⟩, hnx3⟩
    try simp only [] at hnx3
    clear hold1
    refine .e ?_
    refine hK11 _ ?_
    refine .sq fun K12 hK12 => ?_
    refine .region ?_
    refine .k 1 ?_
    refine AOPS.old fun hold1 => ?_
    refine .a (spot_ac l p3 id _ _ dl hl hp3 (by simp (disch := omega) [hH]) hold1) hb155 ?_
    rintro _ _ nx4 ⟨⟨cx, cy, rfl, cx0, cx1, cy0, cy1⟩, ⟨p4, hp4, rfl⟩, hnx4⟩
    try simp only [] at hnx4
    clear hold1
    refine .e ?_
    refine hK12 _ ?_
    refine .sq fun K13 hK13 => ?_
    refine .sq fun K14 hK14 => ?_
    by_cases he : (⟨ax, ay⟩ : Sp) = ⟨cx, cy⟩
    ·have hc : decide ((⟨ax, ay⟩ : Sp) = ⟨cx, cy⟩) = true := by simp [he]
     have hq := eqW2 ⟨ax, ay⟩ ⟨cx, cy⟩
     rw [hc] at hq
     simp only [] at hq
     refine .r ?_ (by simp (disch := first|omega|(simp only[ln];omega)) [hq]; rfl)
     refine hK14 _ ?_
     refine .c (fun h54 => ?_) (fun h54 => ?_)
     ·try simp only[dc]at h54
      refine .r ?_
      refine hK13 _ ?_
      refine .sq fun K15 hK15 => ?_
      refine .region ?_
      refine .kf 2 (segOfS_fc ⟨ax, ay⟩ ⟨cx + 1, cy⟩) hb156 ?_
      refine .e ?_
      refine hK15 _ ?_
      refine .q ?_
      refine .ret ?_
      exact hK _ _ _ _ _ trivial ((Fin.mk (r := .agg [.int .i64 ((segS ⟨ax, ay⟩ ⟨cx + 1, cy⟩).1).a.x, .int .i64 ((segS ⟨ax, ay⟩ ⟨cx + 1, cy⟩).1).a.y, .int .i64 ((segS ⟨ax, ay⟩ ⟨cx + 1, cy⟩).1).b.x, .int .i64 ((segS ⟨ax, ay⟩ ⟨cx + 1, cy⟩).1).b.y]) (by simp (disch := omega) [aRes, aResL, aRes1])).restr (fun i => decide (i < nx))) (⟨⟨(segS ⟨ax, ay⟩ ⟨cx + 1, cy⟩).1, rfl, segS_ok ⟨by unfold I64; first | omega | (simp only []; omega), by unfold I64; first | omega | (simp only []; omega)⟩ ⟨by unfold I64; first | omega | (simp only []; omega), by unfold I64; first | omega | (simp only []; omega)⟩⟩, ⟨p4, hp4, by simp (disch := first | omega | (simp; done) | (simp; omega)) [hrestr_in, hrestr_out, hrestr_all hd, hupd_same]⟩, by first | omega | (simp at *; omega)⟩)
     ·simp at h54
    ·have hc : decide ((⟨ax, ay⟩ : Sp) = ⟨cx, cy⟩) = false := by simp [he]
     have hq := eqW2 ⟨ax, ay⟩ ⟨cx, cy⟩
     rw [hc] at hq
     simp only [] at hq
     refine .r ?_ (by simp (disch := first|omega|(simp only[ln];omega)) [hq]; rfl)
     refine hK14 _ ?_
     refine .c (fun h54 => ?_) (fun h54 => ?_)
     ·simp at h54
     ·try simp only[dc]at h54
      refine .skip ?_
      refine hK13 _ ?_
      refine .sq fun K17 hK17 => ?_
      refine .region ?_
      refine .kf 2 (segOfS_fc ⟨ax, ay⟩ ⟨cx, cy⟩) hb156 ?_
      refine .e ?_
      refine hK17 _ ?_
      refine .q ?_
      refine .ret ?_
      exact hK _ _ _ _ _ trivial ((Fin.mk (r := .agg [.int .i64 ((segS ⟨ax, ay⟩ ⟨cx, cy⟩).1).a.x, .int .i64 ((segS ⟨ax, ay⟩ ⟨cx, cy⟩).1).a.y, .int .i64 ((segS ⟨ax, ay⟩ ⟨cx, cy⟩).1).b.x, .int .i64 ((segS ⟨ax, ay⟩ ⟨cx, cy⟩).1).b.y]) (by simp (disch := omega) [aRes, aResL, aRes1])).restr (fun i => decide (i < nx))) (⟨⟨(segS ⟨ax, ay⟩ ⟨cx, cy⟩).1, rfl, segS_ok ⟨by unfold I64; first | omega | (simp only []; omega), by unfold I64; first | omega | (simp only []; omega)⟩ ⟨by unfold I64; first | omega | (simp only []; omega), by unfold I64; first | omega | (simp only []; omega)⟩⟩, ⟨p4, hp4, by simp (disch := first | omega | (simp; done) | (simp; omega)) [hrestr_in, hrestr_out, hrestr_all hd, hupd_same]⟩, by first | omega | (simp at *; omega)⟩)
end

end Go.Proofs.YtaibemhdfhchfaaGreat

/- Walks: FnOver, walked. -/
namespace Go.Proofs.YtaibemhdfhchfaaGreat
open Go Go.RowKit
set_option linter.unusedSimpArgs false
set_option linter.unusedVariables false
set_option maxRecDepth 100000
attribute [local simp] szT2 byT2 agT2 unT2 zoT2 szT4 byT4 agT4 unT4 zoT4 szT27 byT27 agT27 flT27 fdT27_0 fdT27_1 fdT27_2 fdT27_3 zoT27 szT29 byT29 agT29 flT29 fdT29_0 fdT29_1 fdT29_2 zoT29 szT38 byT38 agT38 flT38 fdT38_0 fdT38_1 zoT38 szT40 byT40 agT40 flT40 fdT40_0 fdT40_1 zoT40 szT108 byT108 agT108 elT108 unT108 zoT108 szT110 byT110 agT110 flT110 fdT110_0 fdT110_1 zoT110 szT112 byT112 agT112 flT112 fdT112_0 fdT112_1 fdT112_2 zoT112

theorem ovEq {s : Sg} {p : Pt} (h : s.good = true) (hp : p.good = true) : ovF s p = ovI s p := by unfold ovF; rw [h, hp]; rfl

section
attribute [local simp] idf_numS cells_numS numS_fold idf_numI cells_numI numI_fold Sp.av Sp.cells Sg.av Sg.cells Pt.av Pt.cells spA spC numC
set_option maxHeartbeats 4000000 in
theorem sideOfI_fc (s : Sg) (p : Pt) (gs : s.good = true) (hp : p.ok) : FC Tryz.prog 96 [s.av, p.av] (.int .i64 (sdF s p)) := by
 obtain ⟨ax0, ax1, ay0, ay1⟩ := Sp.b (good_a gs)
 obtain ⟨bx0, bx1, by0, by1⟩ := Sp.b (good_b gs)
 have pX := W4.bg hp.1
 have pY := W4.bg hp.2.1
 have pW := W4.bg hp.2.2
 have aX : Bg 1 s.a.x := Bg.i64 (by omega) (by omega)
 have aY : Bg 1 s.a.y := Bg.i64 (by omega) (by omega)
 have bX : Bg 1 s.b.x := Bg.i64 (by omega) (by omega)
 have bY : Bg 1 s.b.y := Bg.i64 (by omega) (by omega)
 have dX' : Bg 1 (s.b.x - s.a.x) := Bg.i64 (by omega) (by omega)
 have dY' : Bg 1 (s.b.y - s.a.y) := Bg.i64 (by omega) (by omega)
 refine .b Tryz.func96 52 (fun nx K hK => ?_) (hi := by simp [idfL, idf, Sp.av, Sp.cells, Sg.av, Sg.cells, Pt.av, Pt.cells])
 refine .q ?_
 refine .sq fun K2 hK2 => ?_
 refine .region ?_
 refine .kf 1 (spot_fc p hp) hb77 ?_
 refine .e ?_
 refine hK2 _ ?_
 refine .sq fun K3 hK3 => ?_
 refine .d 11 ?_
 refine .k 5 (fun fs4 hfs4 => ?_)
 refine .f (whole_fc s.a.x (by omega) (by omega)) hb79 ?_
 refine .k 2 (fun fs5 hfs5 => ?_)
 refine .f (by_fc aX pW (by omega) (by omega)) hb80 ?_
 refine .f (less_fc pX (aX.mul pW) (by omega) (by omega)) hb82 ?_
 refine .k 1 (fun fs6 hfs6 => ?_)
 refine .r 11 (by simp only[ln, hfs4, hfs5, hfs6];omega) ?_
 refine hK3 _ ?_
 refine .sq fun K7 hK7 => ?_
 refine .d 11 ?_
 refine .k 5 (fun fs8 hfs8 => ?_)
 refine .f (whole_fc s.a.y (by omega) (by omega)) hb79 ?_
 refine .k 2 (fun fs9 hfs9 => ?_)
 refine .f (by_fc aY pW (by omega) (by omega)) hb80 ?_
 refine .f (less_fc pY (aY.mul pW) (by omega) (by omega)) hb82 ?_
 refine .k 1 (fun fs10 hfs10 => ?_)
 refine .r 11 (by simp only[ln, hfs8, hfs9, hfs10];omega) ?_
 refine hK7 _ ?_
 refine .sq fun K11 hK11 => ?_
 have bQ := pX.sub (aX.mul pW)
 have bR := pY.sub (aY.mul pW)
 have hs : FC Tryz.prog 163 [numI ((s.b.x - s.a.x) * (p.y.v - s.a.y * p.w.v) - (s.b.y - s.a.y) * (p.x.v - s.a.x * p.w.v))] (.int .i64 (sdF s p)) := sign_fc (sdZ s p)
 refine .d 22 ?_
 refine .k 7 (fun fs12 hfs12 => ?_)
 refine .f (whole_fc (s.b.x - s.a.x) (by omega) (by omega)) hb79 ?_
 refine .k 1 (fun fs13 hfs13 => ?_)
 refine .f (by_fc dX' bR (by omega) (by omega)) hb80 ?_
 refine .k 7 (fun fs14 hfs14 => ?_)
 refine .f (whole_fc (s.b.y - s.a.y) (by omega) (by omega)) hb79 ?_
 refine .k 1 (fun fs15 hfs15 => ?_)
 refine .f (by_fc dY' bQ (by omega) (by omega)) hb80 ?_
 refine .f (less_fc (dX'.mul bR) (dY'.mul bQ) (by omega) (by omega)) hb82 ?_
 refine .f hs hb163 ?_
 refine .r 22 (by simp only[ln, hfs12, hfs13, hfs14, hfs15];omega) ?_
 refine hK11 _ ?_
 refine .ret ?_
 exact hK _ _ _ _ trivial (Fin.m)
end
section
attribute [local simp] idf_numS cells_numS numS_fold idf_numI cells_numI numI_fold Sp.av Sp.cells Sg.av Sg.cells Pt.av Pt.cells
end
section
attribute [local simp] idf_numS cells_numS numS_fold idf_numI cells_numI numI_fold Sp.av Sp.cells Sg.av Sg.cells Pt.av Pt.cells spA spC numC
set_option maxHeartbeats 4000000 in
theorem overAtI_fc (s : Sg) (p : Pt) (hp : p.ok) : FC Tryz.prog 20 [s.av, p.av] (.int .i64 (ovF s p)) := by
 refine .b Tryz.func20 81 (fun nx K hK => ?_) (hi := by simp [idfL, idf, Sp.av, Sp.cells, Sg.av, Sg.cells, Pt.av, Pt.cells])
 refine .q ?_
 refine .sq fun K2 hK2 => ?_
 refine .sq fun K3 hK3 => ?_
 cases gs : s.good
 ·refine .region ?_
  refine .kf 1 (segOkI_fc s) hb95 ?_ (by simp (disch := first|omega|(simp only[ln];omega)) [List.take_succ_cons, List.take_zero, gs]; rfl) (ha := by simp (disch := first|omega|(simp only[ln];omega)) [idf_Wd', gs])
  refine .e ?_ (by simp (disch := first|omega|(simp only[ln];omega)) [gs]; rfl)
  refine hK3 _ ?_
  refine .c (fun h15 => ?_) (fun h15 => ?_)
  ·try simp only[dc]at h15
   refine .q ?_
   refine .ret ?_
   exact hK _ _ _ _ trivial ((Fin.m).cast (by unfold ovF; simp [*]))
  ·simp at h15
 ·cases gp : p.good
  ·refine .region ?_
   refine .kf 1 (segOkI_fc s) hb95 ?_ (by simp (disch := first|omega|(simp only[ln];omega)) [List.take_succ_cons, List.take_zero, gs, gp]; rfl) (ha := by simp (disch := first|omega|(simp only[ln];omega)) [idf_Wd', gs, gp])
   refine .kf 3 (pointOkI_fc p hp) hb76 ?_ (by simp (disch := first|omega|(simp only[ln];omega)) [List.take_succ_cons, List.take_zero, gs, gp]; rfl) (ha := by simp (disch := first|omega|(simp only[ln];omega)) [idf_Wd', gs, gp])
   refine .e ?_ (by simp (disch := first|omega|(simp only[ln];omega)) [gs, gp]; rfl)
   refine hK3 _ ?_
   refine .c (fun h15 => ?_) (fun h15 => ?_)
   ·try simp only[dc]at h15
    refine .q ?_
    refine .ret ?_
    exact hK _ _ _ _ trivial ((Fin.m).cast (by unfold ovF; simp [*]))
   ·simp at h15
  ·refine .region ?_
   refine .kf 1 (segOkI_fc s) hb95 ?_ (by simp (disch := first|omega|(simp only[ln];omega)) [List.take_succ_cons, List.take_zero, gs, gp]; rfl) (ha := by simp (disch := first|omega|(simp only[ln];omega)) [idf_Wd', gs, gp])
   refine .kf 3 (pointOkI_fc p hp) hb76 ?_ (by simp (disch := first|omega|(simp only[ln];omega)) [List.take_succ_cons, List.take_zero, gs, gp]; rfl) (ha := by simp (disch := first|omega|(simp only[ln];omega)) [idf_Wd', gs, gp])
   refine .e ?_ (by simp (disch := first|omega|(simp only[ln];omega)) [gs, gp]; rfl)
   refine hK3 _ ?_
   refine .c (fun h15 => ?_) (fun h15 => ?_)
   ·simp at h15
   ·try simp only[dc]at h15
    refine .skip ?_
    refine hK2 _ ?_
    refine .sq fun K6 hK6 => ?_
    obtain ⟨ax0, ax1, ay0, ay1⟩ := Sp.b (good_a gs)
    obtain ⟨bx0, bx1, by0, by1⟩ := Sp.b (good_b gs)
    have pX := W4.bg hp.1
    have pY := W4.bg hp.2.1
    have pW := W4.bg hp.2.2
    have aX : Bg 1 s.a.x := Bg.i64 (by omega) (by omega)
    have aY : Bg 1 s.a.y := Bg.i64 (by omega) (by omega)
    have bX : Bg 1 s.b.x := Bg.i64 (by omega) (by omega)
    have bY : Bg 1 s.b.y := Bg.i64 (by omega) (by omega)
    have dX' : Bg 1 (s.b.x - s.a.x) := Bg.i64 (by omega) (by omega)
    have dY' : Bg 1 (s.b.y - s.a.y) := Bg.i64 (by omega) (by omega)
    refine .region ?_
    refine .kf 1 (spot_fc p hp) hb77 ?_
    refine .e ?_
    refine hK6 _ ?_
    refine .sq fun K7 hK7 => ?_
    have k1 : FC Tryz.prog 78 [numI p.x.v, numI (s.a.x * p.w.v)] (.int .i64 (ovX s.a p)) := cmp_fc pX (aX.mul pW) (by omega) (by omega)
    have k2 : FC Tryz.prog 78 [numI p.x.v, numI (s.b.x * p.w.v)] (.int .i64 (ovX s.b p)) := cmp_fc pX (bX.mul pW) (by omega) (by omega)
    have k3 : FC Tryz.prog 78 [numI p.y.v, numI (s.a.y * p.w.v)] (.int .i64 (ovY s.a p)) := cmp_fc pY (aY.mul pW) (by omega) (by omega)
    have k4 : FC Tryz.prog 78 [numI p.y.v, numI (s.b.y * p.w.v)] (.int .i64 (ovY s.b p)) := cmp_fc pY (bY.mul pW) (by omega) (by omega)
    have sb := sdF_b s p
    have eo := ovEq gs gp
    have eI : ovI s p = if ovX s.a p < 0 ∨ 0 < ovX s.b p then 2 else if s.a.x < s.b.x then -(sdF s p) else if ovY s.a p < 0 then 1 else if 0 < ovY s.b p then -1 else 0 := rfl
    rw [← eo] at eI
    generalize ovF s p = V at *
    generalize ovX s.a p = u1 at *
    generalize ovX s.b p = u2 at *
    generalize ovY s.a p = u3 at *
    generalize ovY s.b p = u4 at *
    refine .d 20 ?_
    refine .k 5 (fun fs8 hfs8 => ?_)
    refine .f (whole_fc s.a.x (by omega) (by omega)) hb79 ?_
    refine .k 2 (fun fs9 hfs9 => ?_)
    refine .f (by_fc aX pW (by omega) (by omega)) hb80 ?_
    refine .f k1 hb78 ?_
    refine .k 5 (fun fs10 hfs10 => ?_)
    refine .f (whole_fc s.b.x (by omega) (by omega)) hb79 ?_
    refine .k 2 (fun fs11 hfs11 => ?_)
    refine .f (by_fc bX pW (by omega) (by omega)) hb80 ?_
    refine .f k2 hb78 ?_
    refine .r 20 (by simp only[ln, hfs8, hfs9, hfs10, hfs11];omega) ?_
    refine hK7 _ ?_
    refine .sq fun K12 hK12 => ?_
    refine .block ?_
    refine .sq fun K13 hK13 => ?_
    by_cases q1 : u1 < 0
    ·have d1 : decide (u1 < 0) = true := decide_eq_true q1
     refine .r ?_ (by simp (disch := first|omega|(simp only[ln];omega)) [d1]; rfl)
     refine hK13 _ ?_
     refine .c (fun h38 => ?_) (fun h38 => ?_)
     ·try simp only[dc]at h38
      refine .q ?_
      refine .ret ?_
      exact hK _ _ _ _ trivial ((Fin.m).cast (by rw [eI, if_pos (Or.inl q1)]))
     ·simp at h38
    ·have d1 : decide (u1 < 0) = false := decide_eq_false q1
     refine .r ?_ (by simp (disch := first|omega|(simp only[ln];omega)) [d1]; rfl)
     refine hK13 _ ?_
     refine .c (t := decide (0 < u2)) (fun h38 => ?_) (fun h38 => ?_)
     ·try simp only[dc]at h38
      refine .q ?_
      refine .ret ?_
      exact hK _ _ _ _ trivial ((Fin.m).cast (by rw [eI, if_pos (Or.inr h38)]))
     ·try simp only[dc]at h38
      have q2 : ¬ (u1 < 0 ∨ 0 < u2) := by omega
      rw [if_neg q2] at eI
      refine .q ?_
      refine .c (t := decide (s.a.x < s.b.x)) (fun h45 => ?_) (fun h45 => ?_)
      ·try simp only[dc]at h45
       rw [if_pos h45] at eI
       refine .sq fun K17 hK17 => ?_
       refine .region ?_
       refine .kf 2 (sideOfI_fc s p gs hp) hb96 ?_
       refine .e ?_
       refine hK17 _ ?_
       refine .ret ?_
       exact hK _ _ _ _ trivial ((Fin.m).cast (by rw [eI]))
      ·try simp only[dc]at h45
       rw [if_neg h45] at eI
       refine .sq fun K18 hK18 => ?_
       refine .d 11 ?_
       refine .k 5 (fun fs19 hfs19 => ?_)
       refine .f (whole_fc s.a.y (by omega) (by omega)) hb79 ?_
       refine .k 2 (fun fs20 hfs20 => ?_)
       refine .f (by_fc aY pW (by omega) (by omega)) hb80 ?_
       refine .f k3 hb78 ?_
       refine .k 1 (fun fs21 hfs21 => ?_)
       refine .r 11 (by simp only[ln, hfs19, hfs20, hfs21];omega) ?_
       refine hK18 _ ?_
       refine .c (t := decide (u3 < 0)) (fun h57 => ?_) (fun h57 => ?_)
       ·try simp only[dc]at h57
        refine .q ?_
        refine .ret ?_
        exact hK _ _ _ _ trivial ((Fin.m).cast (by rw [eI, if_pos h57]))
       ·try simp only[dc]at h57
        rw [if_neg h57] at eI
        refine .sq fun K23 hK23 => ?_
        refine .d 11 ?_
        refine .k 5 (fun fs24 hfs24 => ?_)
        refine .f (whole_fc s.b.y (by omega) (by omega)) hb79 ?_
        refine .k 2 (fun fs25 hfs25 => ?_)
        refine .f (by_fc bY pW (by omega) (by omega)) hb80 ?_
        refine .f k4 hb78 ?_
        refine .k 1 (fun fs26 hfs26 => ?_)
        refine .r 11 (by simp only[ln, hfs24, hfs25, hfs26];omega) ?_
        refine hK23 _ ?_
        refine .c (t := decide (0 < u4)) (fun h69 => ?_) (fun h69 => ?_)
        ·try simp only[dc]at h69
         refine .q ?_
         refine .ret ?_
         exact hK _ _ _ _ trivial ((Fin.m).cast (by rw [eI, if_pos h69]))
        ·try simp only[dc]at h69
         rw [if_neg h69] at eI
         refine .skip ?_
         refine hK12 _ ?_
         refine .q ?_
         refine .ret ?_
         exact hK _ _ _ _ trivial ((Fin.m).cast (by rw [eI]))
end

end Go.Proofs.YtaibemhdfhchfaaGreat

/- Walks: sides of layers in order. -/
namespace Go.Proofs.YtaibemhdfhchfaaGreat
open Go Go.RowKit
set_option linter.unusedSimpArgs false
set_option linter.unusedVariables false
set_option maxRecDepth 100000
attribute [local simp] szT2 byT2 agT2 unT2 zoT2 szT3 byT3 agT3 unT3 zoT3 szT24 byT24 agT24 elT24 unT24 zoT24 szT38 byT38 agT38 flT38 fdT38_0 fdT38_1 zoT38 szT40 byT40 agT40 flT40 fdT40_0 fdT40_1 zoT40 szT41 byT41 agT41 elT41 unT41 zoT41 szT43 byT43 agT43 flT43 fdT43_0 zoT43 szT75 byT75 agT75 elT75 unT75 zoT75 szT81 byT81 agT81 elT81 unT81 zoT81

set_option maxHeartbeats 1000000 in
theorem cmpOr_fc (l : List Int) (hl : l.length ≤ 1048576) : FC Tryz.prog 86 [Wd .i64 l] (.int .i64 (orL l)) := by
 refine .b Tryz.func86 18 (fun nx K hK => ?_)
 refine .q ?_
 refine .q ?_
 refine .sq fun K3 hK3 => ?_
 refine .q ?_ (by simp (disch := first|omega|(simp only[ln];omega)) [len_Wd (P := Tryz.prog) #[75] rfl elT75]; rfl)
 refine .block ?_
 
 refine .loop (fun N s => ∃ i : Nat, N = l.length - i ∧ i ≤ l.length ∧ (orL l = orL (l.drop i)) ∧ s.env 3 = .int .i64 0 ∧ s.env 6 = Wd .i64 l ∧ s.env 7 = .int .i64 (l.length : Int) ∧ s.env 8 = .int .i64 (i : Int) ∧ s.nt = 18) (l.length) (by refine ⟨0, by omega, by omega, rfl, ?_, ?_, ?_, ?_, rfl⟩ <;> first|(simp (disch := omega);done)|omega|(simp;done)|(simp;omega)) ?_
 rintro N ⟨e, H, mm, nt⟩ ⟨i, rfl, hi, hv, g3, g6, g7, g8, rfl⟩
 simp only [] at g3 g6 g7 g8
 refine .q ?_ (by simp (disch := first|omega|(simp only[ln];omega)) [g7, g8]; rfl)
 refine .sq fun K6 hK6 => ?_
 refine .c (fun h9 => ?_) (fun h9 => ?_)
 ·try simp only[dc]at h9
  have hi' : i < l.length := by omega
  rw [orL_step hi'] at hv
  refine .skip ?_
  refine hK6 _ ?_
  refine .sq fun K7 hK7 => ?_
  refine .block ?_
  refine .q ?_ (by simp (disch := first|omega|(simp only[ln];omega)) [idx_WdD (P := Tryz.prog) elT75 szT3, if_pos, g6, g8]; rfl)
  refine .q ?_ (by simp (disch := first|omega|(simp only[ln];omega)) [g3]; rfl)
  refine .c (t := gt l i != 0) (fun h14 => ?_) (fun h14 => ?_) (by simp (disch := first|omega|(simp only[ln];omega)) [bne])
  ·try simp only[dc]at h14
   rw [if_pos (by simpa using h14)] at hv
   refine .q ?_
   refine .ret ?_
   exact hK _ _ _ _ trivial ((Fin.m).cast (by rw [hv]))
  ·try simp only[dc]at h14
   rw [if_neg (by simpa using h14)] at hv
   refine .skip ?_
   refine hK7 _ ?_
   refine .r ?_ (by simp (disch := first|omega|(simp only[ln];omega)) [g3, g6, g7, g8]; rfl)
   refine ⟨l.length - (i + 1), by omega, i + 1, rfl, by omega, hv, ?_, ?_, ?_, ?_, rfl⟩ <;> first|(simp (disch := omega) [g3, g6, g7, g8];done)|omega|(simp;done)|(simp;omega)
 ·try simp only[dc]at h9
  have hin : i = l.length := by omega
  rw [hin, List.drop_length] at hv
  refine .exit ?_
  refine hK3 _ ?_
  refine .q ?_ (by simp (disch := first|omega|(simp only[ln];omega)) [g3]; rfl)
  refine .ret ?_
  exact hK _ _ _ _ trivial ((Fin.m).cast (by rw [hv]; rfl))
section
attribute [local simp] Sg.av Sg.cells Sp.av Sp.cells
end
section
attribute [local simp] Sp.av Sp.cells Sg.av Sg.cells
end

end Go.Proofs.YtaibemhdfhchfaaGreat

/- Walks: slices.SortStableFunc of few numbers. -/
namespace Go.Proofs.YtaibemhdfhchfaaGreat
open Go Go.RowKit
set_option linter.unusedSimpArgs false
set_option linter.unusedVariables false
set_option maxRecDepth 100000
attribute [local simp] szT2 byT2 agT2 unT2 zoT2 szT3 byT3 agT3 unT3 zoT3 szT32 byT32 agT32 elT32 unT32 zoT32

section
attribute [local simp] runDf.eq_def runF1 runF2 stepF.eq_def updo.eq_def hupo.eq_def opSto1.eq_def runQ runT qOk.eq_def qnone asksB.eq_def topId.eq_def Op.operands List.take_succ_cons List.take_zero List.drop_succ_cons List.drop_zero
set_option maxHeartbeats 4000000 in
theorem insI_ac {α : Type} [Inhabited α] (P : α → Int) (cv : α → α → Int) (f : Nat) (caps : List AV) (hc : CmpF Tryz.prog f caps (fun x => AV.int .i64 (P x)) cv) (d : Array α) (n id : Nat) (HP : Heap) (nx : Nat) (hn : d.size = n) (hH : HP id = some (1, rwA (fun x => [AV.int .i64 (P x)]) d)) (hid : id < nx) (hl : n ≤ 1099511627776) (a b : Nat) (ha : a ≤ n) (hb : b ≤ n) : ACall Tryz.prog 242 [.osl id 0 n, .int .i64 (a : Int), .int .i64 (b : Int), .fn f caps] HP nx (fun r H' nx' => r = .tup [] ∧ H' = hupd HP id (some (1, rwA (fun x => [AV.int .i64 (P x)]) (Sort.insertionSort (ltc cv) d a b))) ∧ nx ≤ nx') := by
 refine .b Tryz.func242 53 fun K hK => ?_
 refine .q ?_
 refine .block ?_
 refine .loop (fun N st => ∃ (i : Nat) (e : Array α) (D : List (List AV)), (N = b - i) ∧ (a + 1 ≤ i) ∧ (i ≤ n + 1) ∧ (e.size = n) ∧ (Sort.insOuter (ltc cv) a b i e = Sort.insertionSort (ltc cv) d a b) ∧ (D = rwA (fun x => [AV.int .i64 (P x)]) e) ∧ (st.heap = hupd HP id (some (1, D))) ∧ (nx ≤ st.nx) ∧ st.env 0 = .osl id 0 n ∧ st.env 1 = .int .i64 (a : Int) ∧ st.env 2 = .int .i64 (b : Int) ∧ st.env 3 = .fn f caps ∧ st.env 8 = .int .i64 (i : Int) ∧ st.nt = 53) (b - (a + 1)) (by refine ⟨a + 1, d, _, rfl, Nat.le_refl _, by omega, hn, rfl, rfl, (hupd_id hH).symm, Nat.le_refl _, ?_, ?_, ?_, ?_, ?_, rfl⟩ <;> first|(simp (disch := omega);done)|omega|(simp;done)|(simp;omega)) ?_
 rintro N ⟨e0, H, mm, nt⟩ ⟨i, e, D, rfl, hi1, hi2, he, hE, hD, rfl, hnx, g0, g1, g2, g3, g8, rfl⟩
 simp only [] at g0 g1 g2 g3 g8 hnx
 refine .sq fun K2 hK2 => ?_
 refine .q ?_ (by simp (disch := first|omega|(simp only[ln];omega)) [g8, g2]; rfl)
 refine .c (t := decide ((i : Int) < (b : Int))) (fun h14 => ?_) (fun h14 => ?_)
 ·try simp only[dc]at h14
  have hi' : i < b := by omega
  refine .skip ?_
  refine hK2 _ ?_
  refine .sq fun K4 hK4 => ?_
  refine .block ?_
  refine .q ?_ (by simp (disch := first|omega|(simp only[ln];omega)) [g0, g1, g2, g3, g8]; rfl)
  refine .block ?_
  refine .loop (fun N st => ∃ (j : Nat) (k : Array α) (D2 : List (List AV)), (N = j) ∧ (a ≤ j) ∧ (j ≤ i) ∧ (k.size = n) ∧ (Sort.insInner (ltc cv) a j k = Sort.insInner (ltc cv) a i e) ∧ (D2 = rwA (fun x => [AV.int .i64 (P x)]) k) ∧ (st.heap = hupd HP id (some (1, D2))) ∧ (nx ≤ st.nx) ∧ st.env 0 = .osl id 0 n ∧ st.env 1 = .int .i64 (a : Int) ∧ st.env 2 = .int .i64 (b : Int) ∧ st.env 3 = .fn f caps ∧ st.env 8 = .int .i64 (i : Int) ∧ st.env 9 = .int .i64 (j : Int) ∧ st.nt = 53) (i) (by refine ⟨i, e, D, rfl, by omega, Nat.le_refl _, he, rfl, hD, by simp, by simp; omega, ?_, ?_, ?_, ?_, ?_, ?_, rfl⟩ <;> first|(simp (disch := omega) [g0, g1, g2, g3, g8];done)|omega|(simp;done)|(simp;omega)|(simp (disch := omega) [g0, g1, g2, g3, g8] <;> omega)) ?_
  rintro N ⟨e0, H, mm, nt⟩ ⟨j, k, D2, hN, hj1, hj2, hk, hK2, hD2, rfl, hmx, g0j, g1j, g2j, g3j, g8j, g9j, rfl⟩
  simp only [] at g0j g1j g2j g3j g8j g9j hmx
  refine .sq fun K6 hK6 => ?_
  refine .sq fun K7 hK7 => ?_
  by_cases hja : a < j
  ·have hjm : (j : Int) - 1 = ((j - 1 : Nat) : Int) := by omega
   have ha1 : D2[j]? = some [AV.int .i64 (P (gA k j))] := by rw [hD2]; exact rwA_get (by omega)
   have hg1 : ∀ h : j < D2.length, D2[j] = [AV.int .i64 (P (gA k j))] := fun h => by rw [List.getElem?_eq_getElem h] at ha1; simpa using ha1
   have ha2 : D2[(j - 1)]? = some [AV.int .i64 (P (gA k (j - 1)))] := by rw [hD2]; exact rwA_get (by omega)
   have hg2 : ∀ h : (j - 1) < D2.length, D2[(j - 1)] = [AV.int .i64 (P (gA k (j - 1)))] := fun h => by rw [List.getElem?_eq_getElem h] at ha2; simpa using ha2
   have hcl : D2.length = n := by rw [hD2, rwA_len]; assumption
   have hz1 : j < n := by omega
   have hz2 : (j - 1) < n := by omega
   refine .d 17 ?_
   refine .k 14 (fun fs8 hfs8 => ?_) (by simp (disch := first|omega|(simp only[ln];omega)) [List.take_succ_cons, List.take_zero, idx_WdD (P := Tryz.prog) elT32 szT2, if_pos, g0j, g1j, g2j, g3j, g8j, g9j, hjm, hja, ha1, ha2, hcl, hg1, hg2, hz1, hz2, hid]; rfl)
   refine DP.fcall (hc.2 (gA k j) (gA k (j - 1))) rfl rfl (by simp; rfl) hc.1 (by simp (disch := first|omega|(simp only[ln];omega)) [idf_Wd']) (by simp (disch := first|omega|(simp only[ln];omega))) (by simp) ?_
   simp only [updo]
   refine .k 2 (fun fs9 hfs9 => ?_) (by simp (disch := first|omega|(simp only[ln];omega)) [List.take_succ_cons, List.take_zero, idx_WdD (P := Tryz.prog) elT32 szT2, if_pos]; rfl)
   refine .r 17 (by simp only[ln, hfs8, hfs9];omega) ?_ (by simp (disch := first|omega|(simp only[ln];omega)) [idx_WdD (P := Tryz.prog) elT32 szT2, if_pos]; rfl)
   refine hK7 _ ?_
   refine .c (t := ltc cv (gA k j) (gA k (j - 1))) (fun h34 => ?_) (fun h34 => ?_) (by simp (disch := first|omega|(simp only[ln];omega)) [ltc])
   ·try simp only[dc]at h34
    have hlt := h34
    refine .skip ?_
    refine hK6 _ ?_
    refine .sq fun K10 hK10 => ?_
    refine .block ?_
    have ha1 : D2[j]? = some [AV.int .i64 (P (gA k j))] := by rw [hD2]; exact rwA_get (by omega)
    have hg1 : ∀ h : j < D2.length, D2[j] = [AV.int .i64 (P (gA k j))] := fun h => by rw [List.getElem?_eq_getElem h] at ha1; simpa using ha1
    have ha2 : D2[(j - 1)]? = some [AV.int .i64 (P (gA k (j - 1)))] := by rw [hD2]; exact rwA_get (by omega)
    have hg2 : ∀ h : (j - 1) < D2.length, D2[(j - 1)] = [AV.int .i64 (P (gA k (j - 1)))] := fun h => by rw [List.getElem?_eq_getElem h] at ha2; simpa using ha2
    have hset : (D2.set j [AV.int .i64 (P (gA k (j - 1)))]).set (j - 1) [AV.int .i64 (P (gA k j))] = rwA (fun x => [AV.int .i64 (P x)]) (Sort.swp k j (j - 1)) := by rw [hD2]; exact rwA_swp
    have hcl : D2.length = n := by rw [hD2, rwA_len]; assumption
    obtain ⟨row, hr1, hr2⟩ : ∃ row, (D2.set j [AV.int .i64 (P (gA k (j - 1)))])[(j - 1)]? = some row ∧ row.length = 1 := by rw [hD2]; exact rwA_row (fun _ => rfl) (by omega) (by omega) rfl
    have hr3 : row.drop 1 = [] := List.drop_eq_nil_of_le (by omega)
    have hg3 : ∀ h : (j - 1) < (D2.set j [AV.int .i64 (P (gA k (j - 1)))]).length, (D2.set j [AV.int .i64 (P (gA k (j - 1)))])[(j - 1)] = row := fun h => by rw [List.getElem?_eq_getElem h] at hr1; simpa using hr1
    have hz1 : j < n := by omega
    have hz2 : (j - 1) < n := by omega
    have hz3 : id < mm := by omega
    refine .sw 15 [2, 3, 4] ?_ (by simp (disch := first|omega|(simp only[ln];omega)) [idx_WdD (P := Tryz.prog) elT32 szT2, if_pos, g0j, g1j, g2j, g3j, g8j, g9j, hjm, hz3, ha1, ha2, hcl, hg1, hg2, hg3, hr1, hr2, hr3, hz1, hz2, hid, hset, hupd_same, List.length_set]; rfl) (by simp (disch := first|omega|(simp only[ln];omega)) [idx_WdD (P := Tryz.prog) elT32 szT2, if_pos, g0j, g1j, g2j, g3j, g8j, g9j, hjm, hz3, ha1, ha2, hcl, hg1, hg2, hg3, hr1, hr2, hr3, hz1, hz2, hid, hset, hupd_same, List.length_set]; rfl)
    refine hK10 _ ?_
    refine .r ?_ (by simp (disch := first|omega|(simp only[ln];omega)) [g0j, g1j, g2j, g3j, g8j, g9j]; rfl)
    refine ⟨j - 1, by omega, j - 1, Sort.swp k j (j - 1), _, rfl, by omega, by omega, by rw [Sort.size_swp]; exact hk, by rw [← hK2, insInner_pos _ hja hlt], rfl, by simp only [hupd_same, hset], by simp; omega, ?_, ?_, ?_, ?_, ?_, ?_, rfl⟩ <;> first|(simp (disch := omega) [g0j, g1j, g2j, g3j, g8j, g9j, hjm];done)|omega|(simp;done)|(simp;omega)|(simp (disch := omega) [g0j, g1j, g2j, g3j, g8j, g9j, hjm] <;> omega)
   ·try simp only[dc]at h34
    have hend := insInner_neg (a := a) (j := j) (d := k) (ltc cv) (fun h => by rw [h34] at h; simp at h)
    refine .exit ?_
    refine hK4 _ ?_
    refine .r ?_ (by simp (disch := first|omega|(simp only[ln];omega)) [g0j, g1j, g2j, g3j, g8j, g9j]; rfl)
    refine ⟨b - (i + 1), by omega, i + 1, k, D2, rfl, by omega, by omega, hk, by rw [← hE, insOuter_pos _ hi', ← hK2, hend], hD2, by simp, by simp; omega, ?_, ?_, ?_, ?_, ?_, rfl⟩ <;> first|(simp (disch := omega) [g0j, g1j, g2j, g3j, g8j, g9j];done)|omega|(simp;done)|(simp;omega)
  ·
   refine .df 17 ?_ (by simp (disch := first|omega|(simp only[ln];omega)) [idx_WdD (P := Tryz.prog) elT32 szT2, if_pos, g0j, g1j, g2j, g3j, g8j, g9j, hja]; rfl)
   refine hK7 _ ?_
   refine .c (t := false) (fun h34 => ?_) (fun h34 => ?_) (by simp (disch := first|omega|(simp only[ln];omega)) [hja])
   ·simp at h34
   ·
    have hend := insInner_neg (a := a) (j := j) (d := k) (ltc cv) (fun h => hja h.1)
    refine .exit ?_
    refine hK4 _ ?_
    refine .r ?_ (by simp (disch := first|omega|(simp only[ln];omega)) [g0j, g1j, g2j, g3j, g8j, g9j]; rfl)
    refine ⟨b - (i + 1), by omega, i + 1, k, D2, rfl, by omega, by omega, hk, by rw [← hE, insOuter_pos _ hi', ← hK2, hend], hD2, by simp, by simp; omega, ?_, ?_, ?_, ?_, ?_, rfl⟩ <;> first|(simp (disch := omega) [g0j, g1j, g2j, g3j, g8j, g9j];done)|omega|(simp;done)|(simp;omega)
 ·try simp only[dc]at h14
  rw [insOuter_neg _ (by omega)] at hE
  subst hE
  subst hD
  refine .exit ?_
  exact hK _ _ _ _ _ trivial (Fin.m) (⟨rfl, rfl, hnx⟩)
set_option maxHeartbeats 4000000 in
theorem stableI_ac {α : Type} [Inhabited α] (P : α → Int) (cv : α → α → Int) (f : Nat) (caps : List AV) (hc : CmpF Tryz.prog f caps (fun x => AV.int .i64 (P x)) cv) (d : Array α) (n id : Nat) (HP : Heap) (nx : Nat) (hn : d.size = n) (hH : HP id = some (1, rwA (fun x => [AV.int .i64 (P x)]) d)) (hid : id < nx) (hl : n ≤ 1099511627776) (h20 : n < 20) : ACall Tryz.prog 174 [.osl id 0 n, .int .i64 (n : Int), .fn f caps] HP nx (fun r H' nx' => r = .tup [] ∧ H' = hupd HP id (some (1, rwA (fun x => [AV.int .i64 (P x)]) (Sort.insertionSort (ltc cv) d 0 n))) ∧ nx ≤ nx') := by
 refine .b Tryz.func174 63 fun K hK => ?_
 refine .q ?_
 refine .q ?_
 refine .sq fun K3 hK3 => ?_
 refine .block ?_
 refine .loop (fun N st => (N = 1) ∧ (st.heap = HP) ∧ (nx ≤ st.nx) ∧ st.env 0 = .osl id 0 n ∧ st.env 1 = .int .i64 (n : Int) ∧ st.env 2 = .fn f caps ∧ st.env 6 = .int .i64 20 ∧ st.env 7 = .int .i64 0 ∧ st.env 8 = .int .i64 20 ∧ st.nt = 63) (1) (by refine ⟨rfl, rfl, by simp, ?_, ?_, ?_, ?_, ?_, ?_, rfl⟩ <;> first|(simp (disch := omega);done)|omega|(simp;done)|(simp;omega)) ?_
 rintro N ⟨e0, H, mm, nt⟩ ⟨rfl, hHP, hnx, g0, g1, g2, g6, g7, g8, rfl⟩
 simp only [] at g0 g1 g2 g6 g7 g8 hHP hnx
 refine .sq fun K4 hK4 => ?_
 refine .q ?_ (by simp (disch := first|omega|(simp only[ln];omega)) [g8, g1]; rfl)
 refine .c (t := decide ((20 : Int) ≤ (n : Int))) (fun h13 => ?_) (fun h13 => ?_)
 ·exact absurd h13 (by simp; omega)
 ·try simp only[dc]at h13
  
  refine .exit ?_
  refine hK3 _ ?_
  refine .sq fun K6 hK6 => ?_
  refine .region ?_
  refine .k 4 ?_ (by simp (disch := first|omega|(simp only[ln];omega)) [List.take_succ_cons, List.take_zero, g0, g1, g2, g6, g7, g8]; rfl)
  refine .a (insI_ac P cv f caps hc d n id _ _ hn (by simp only []; rw [hHP]; exact hH) (by first|omega|(simp;omega)) hl 0 n (Nat.zero_le _) (Nat.le_refl _)) hb242 ?_ (ha := by simp (disch := first|omega|(simp only[ln];omega)) [idf_Wd', g0, g1, g2, g6, g7, g8])
  rintro _ _ nx4 ⟨rfl, rfl, hn4⟩
  simp only [] at hn4
  refine .nil ?_
  refine hK6 _ ?_
  refine .block ?_
  refine .loop (fun N st => (N = 1) ∧ (st.heap = hupd HP id (some (1, rwA (fun x => [AV.int .i64 (P x)]) (Sort.insertionSort (ltc cv) d 0 n)))) ∧ (nx ≤ st.nx) ∧ st.env 1 = .int .i64 (n : Int) ∧ st.env 6 = .int .i64 20 ∧ st.nt = 63) (1) (by refine ⟨rfl, by simp [hHP], by simp; omega, ?_, ?_, rfl⟩ <;> first|(simp (disch := omega) [g0, g1, g2, g6, g7, g8];done)|omega|(simp;done)|(simp;omega)) ?_
  rintro N ⟨e0, H, mm, nt⟩ ⟨rfl, rfl, hnb, g1b, g6b, rfl⟩
  simp only [] at g1b g6b hnb
  refine .sq fun K7 hK7 => ?_
  refine .q ?_ (by simp (disch := first|omega|(simp only[ln];omega)) [g6b, g1b]; rfl)
  refine .c (t := decide ((20 : Int) < (n : Int))) (fun h30 => ?_) (fun h30 => ?_)
  ·exact absurd h30 (by simp; omega)
  ·try simp only[dc]at h30
   
   refine .exit ?_
   exact hK _ _ _ _ _ trivial (Fin.m) (⟨rfl, rfl, by first|assumption|(simp;omega)⟩)
end
set_option maxHeartbeats 1000000 in
theorem sortStableI_ac {α : Type} [Inhabited α] (P : α → Int) (cv : α → α → Int) (f : Nat) (caps : List AV) (hc : CmpF Tryz.prog f caps (fun x => AV.int .i64 (P x)) cv) (d : Array α) (n id : Nat) (HP : Heap) (nx : Nat) (hn : d.size = n) (hH : HP id = some (1, rwA (fun x => [AV.int .i64 (P x)]) d)) (hid : id < nx) (hl : n ≤ 1099511627776) (h20 : n < 20) : ACall Tryz.prog 84 [.osl id 0 n, .fn f caps] HP nx (fun r H' nx' => r = .tup [] ∧ H' = hupd HP id (some (1, rwA (fun x => [AV.int .i64 (P x)]) (Sort.insertionSort (ltc cv) d 0 n))) ∧ nx ≤ nx') := by
 refine .b Tryz.func84 9 fun K hK => ?_
 refine .region ?_
 refine .k 4 ?_ (by simp (disch := first|omega|(simp only[ln];omega)) [List.take_succ_cons, List.take_zero, len_Wd (P := Tryz.prog) #[32] rfl elT32, hH]; rfl)
 refine .a (stableI_ac P cv f caps hc d n id _ _ hn hH (by first|omega|(simp;done)|(simp;omega)) hl h20) hb174 ?_ (ha := by simp (disch := first|omega|(simp only[ln];omega)) [idf_Wd', len_Wd (P := Tryz.prog) #[32] rfl elT32, hH])
 rintro _ _ nx4 ⟨rfl, rfl, hn4⟩
 simp only [] at hn4
 refine .nil ?_
 exact hK _ _ _ _ _ trivial (Fin.m) (⟨rfl, rfl, by first|assumption|(simp;omega)⟩)

end Go.Proofs.YtaibemhdfhchfaaGreat

/- Walks: heights over a place, compared (impl). -/
namespace Go.Proofs.YtaibemhdfhchfaaGreat
open Go Go.RowKit
set_option linter.unusedSimpArgs false
set_option linter.unusedVariables false
set_option maxRecDepth 100000
attribute [local simp] szT2 byT2 agT2 unT2 zoT2 szT3 byT3 agT3 unT3 zoT3 szT4 byT4 agT4 unT4 zoT4 szT24 byT24 agT24 elT24 unT24 zoT24 szT38 byT38 agT38 flT38 fdT38_0 fdT38_1 zoT38 szT40 byT40 agT40 flT40 fdT40_0 fdT40_1 zoT40 szT75 byT75 agT75 elT75 unT75 zoT75 szT108 byT108 agT108 elT108 unT108 zoT108 szT110 byT110 agT110 flT110 fdT110_0 fdT110_1 zoT110 szT112 byT112 agT112 flT112 fdT112_0 fdT112_1 fdT112_2 zoT112 szT118 byT118 agT118 flT118 fdT118_0 fdT118_1 zoT118 szT119 byT119 agT119

theorem hbS1 : hasBody Tryz.prog 81 = true := hb81
theorem hbS2 : hasBody Tryz.prog 85 = true := hb85

section
attribute [local simp] idf_numS cells_numS numS_fold idf_numI cells_numI numI_fold Sp.av Sp.cells Sg.av Sg.cells Pt.av Pt.cells spA spC numC rtA rtC
set_option maxHeartbeats 8000000 in
theorem height_fc (s : Sg) (p : Pt) (gs : s.good = true) (hp : p.ok) : FC Tryz.prog 81 [s.av, .ip (spC p.x.v p.y.v p.w.v)] (rtA (stH s p) (stD s)) := by
 obtain ⟨ax0, ax1, ay0, ay1⟩ := Sp.b (good_a gs)
 obtain ⟨bx0, bx1, by0, by1⟩ := Sp.b (good_b gs)
 have pX := W4.bg hp.1
 have pY := W4.bg hp.2.1
 have pW := W4.bg hp.2.2
 have aX : Bg 1 s.a.x := Bg.i64 (by omega) (by omega)
 have aY : Bg 1 s.a.y := Bg.i64 (by omega) (by omega)
 have bX : Bg 1 s.b.x := Bg.i64 (by omega) (by omega)
 have bY : Bg 1 s.b.y := Bg.i64 (by omega) (by omega)
 have dX' : Bg 1 (s.b.x - s.a.x) := Bg.i64 (by omega) (by omega)
 have dY' : Bg 1 (s.b.y - s.a.y) := Bg.i64 (by omega) (by omega)
 refine .b Tryz.func81 46 (fun nx K hK => ?_) (hi := by simp [idfL, idf, idfLL_iff, Sp.av, Sp.cells, Sg.av, Sg.cells, Pt.av, Pt.cells, spC, idf_Wd'])
 refine .q ?_
 refine .sq fun K2 hK2 => ?_
 refine .region ?_
 refine .kf 7 (whole_fc (s.b.x - s.a.x) (by omega) (by omega)) hb79 ?_
 refine .e ?_
 refine hK2 _ ?_
 refine .sq fun K3 hK3 => ?_
 refine .d 20 ?_
 refine .k 5 (fun fs4 hfs4 => ?_)
 refine .f (whole_fc s.a.x (by omega) (by omega)) hb79 ?_
 refine .k 2 (fun fs5 hfs5 => ?_)
 refine .f (by_fc aX pW (by omega) (by omega)) hb80 ?_
 refine .f (less_fc pX (aX.mul pW) (by omega) (by omega)) hb82 ?_
 refine .k 7 (fun fs6 hfs6 => ?_)
 refine .f (whole_fc (s.b.y - s.a.y) (by omega) (by omega)) hb79 ?_
 refine .f (by_fc (pX.sub (aX.mul pW)) dY' (by omega) (by omega)) hb80 ?_
 refine .k 1 (fun fs7 hfs7 => ?_)
 refine .r 20 (by simp only[ln, hfs4, hfs5, hfs6, hfs7];omega) ?_
 refine hK3 _ ?_
 refine .sq fun K8 hK8 => ?_
 refine .d 13 ?_
 refine .k 3 (fun fs9 hfs9 => ?_)
 refine .f (whole_fc s.a.y (by omega) (by omega)) hb79 ?_
 refine .k 1 (fun fs10 hfs10 => ?_)
 refine .f (by_fc aY dX' (by omega) (by omega)) hb80 ?_
 refine .k 2 (fun fs11 hfs11 => ?_)
 refine .f (by_fc (aY.mul dX') pW (by omega) (by omega)) hb80 ?_
 refine .k 1 (fun fs12 hfs12 => ?_)
 refine .f (plus_fc ((aY.mul dX').mul pW) ((pX.sub (aX.mul pW)).mul dY') (by omega) (by omega)) hb83 ?_
 refine .k 2 (fun fs13 hfs13 => ?_)
 refine .r 13 (by simp only[ln, hfs9, hfs10, hfs11, hfs12, hfs13];omega) ?_
 refine hK8 _ ?_
 refine .ret ?_
 exact hK _ _ _ _ trivial ((Fin.m).cast (by rfl))
set_option maxHeartbeats 8000000 in
theorem statusCmp_fc (L : List Sg) (p : Pt) (hp : p.ok) (hL : L.length ≤ 40) (hg : ∀ s ∈ L, s.good = true) (i k : Nat) (hi : i < L.length) (hk : k < L.length) : FC Tryz.prog 85 [.int .i64 (i : Int), .int .i64 (k : Int), .ip [.isl (L.map Sg.cells)], .ip [.fn 81 [.ip (spC p.x.v p.y.v p.w.v)]]] (.int .i64 (stV p (gq L i) (gq L k) i k)) := by
 have hat1 : (L.map Sg.cells)[i]? = some (Sg.cells (gq L i)) := by rw [List.getElem?_map, gq_get hi]; rfl
 have hae1 : ∀ h : i < (L.map Sg.cells).length, (L.map Sg.cells)[i] = Sg.cells (gq L i) := fun h => by rw [List.getElem?_eq_getElem h] at hat1; simpa using hat1
 have hat2 : (L.map Sg.cells)[k]? = some (Sg.cells (gq L k)) := by rw [List.getElem?_map, gq_get hk]; rfl
 have hae2 : ∀ h : k < (L.map Sg.cells).length, (L.map Sg.cells)[k] = Sg.cells (gq L k) := fun h => by rw [List.getElem?_eq_getElem h] at hat2; simpa using hat2
 have gS := hg _ (gq_mem hi)
 have gT := hg _ (gq_mem hk)
 have hlk : k ≤ 40 := by omega
 obtain ⟨S, hS⟩ : ∃ S, S = gq L i := ⟨_, rfl⟩
 obtain ⟨T, hT⟩ : ∃ T, T = gq L k := ⟨_, rfl⟩
 rw [← hS] at hat1 hae1 gS
 rw [← hT] at hat2 hae2 gT
 obtain ⟨a1, a2, a3, a4⟩ := Sp.b (good_a gS)
 obtain ⟨a5, a6, a7, a8⟩ := Sp.b (good_b gS)
 obtain ⟨b1, b2, b3, b4⟩ := Sp.b (good_a gT)
 obtain ⟨b5, b6, b7, b8⟩ := Sp.b (good_b gT)
 have m1 := mul_b (u := S.b.y - S.a.y) (v := T.b.x - T.a.x) (m := 2000000) (n := 2000000) (by omega) (by omega) (by omega) (by omega) (by omega)
 have m2 := mul_b (u := T.b.y - T.a.y) (v := S.b.x - S.a.x) (m := 2000000) (n := 2000000) (by omega) (by omega) (by omega) (by omega) (by omega)
 have pX := W4.bg hp.1
 have pW := W4.bg hp.2.2
 have bg1 : ∀ x : Int, -2000000 ≤ x → x ≤ 2000000 → Bg 1 x := fun x h1 h2 => Bg.i64 (by omega) (by omega)
 have bH : ∀ s : Sg, -1000000 ≤ s.a.x → s.a.x ≤ 1000000 → -1000000 ≤ s.a.y → s.a.y ≤ 1000000 → -1000000 ≤ s.b.x → s.b.x ≤ 1000000 → -1000000 ≤ s.b.y → s.b.y ≤ 1000000 → Bg 64 (stH s p) ∧ Bg 64 (stD s) := fun s h1 h2 h3 h4 h5 h6 h7 h8 =>
   ⟨(((bg1 s.a.y (by omega) (by omega)).mul (bg1 (s.b.x - s.a.x) (by omega) (by omega))).mul pW |>.add ((pX.sub ((bg1 s.a.x (by omega) (by omega)).mul pW)).mul (bg1 (s.b.y - s.a.y) (by omega) (by omega)))).le (by omega), (bg1 (s.b.x - s.a.x) (by omega) (by omega)).le (by omega)⟩
 obtain ⟨c1, c2⟩ := bH S a1 a2 a3 a4 a5 a6 a7 a8
 obtain ⟨c3, c4⟩ := bH T b1 b2 b3 b4 b5 b6 b7 b8
 refine .b Tryz.func85 63 (fun nx K hK => ?_) (hi := by simp [idfL, idf, idfLL_iff, Sp.av, Sp.cells, Sg.av, Sg.cells, spC, idf_Wd'])
 refine .q ?_
 refine .sq fun K2 hK2 => ?_
 refine .old fun hold => ?_
 refine .d 10 ?_
 refine .k 4 (fun fs3 hfs3 => ?_) (by simp (disch := first|omega|(simp only[ln];omega)) [runDf.eq_def, runF1, runF2, stepF.eq_def, updo.eq_def, hupo.eq_def, opSto1.eq_def, List.take_succ_cons, List.take_zero, if_pos, hat1, hae1, hat2, hae2, hi, hk, List.length_map]; rfl)
 refine DP.runF1q (by simp (disch := first|omega|(simp only[ln];omega)) [runDf.eq_def, runF1, runF2, stepF.eq_def, updo.eq_def, hupo.eq_def, opSto1.eq_def, if_pos, hat1, hae1, hat2, hae2, hi, hk, List.length_map]; rfl) fun fq4 hfq4 => ?_
 simp [qids, asksB, Op.operands, topId] at hfq4
 simp only [updo]
 refine DP.runF1q (by simp (disch := first|omega|(simp only[ln];omega)) [runDf.eq_def, runF1, runF2, stepF.eq_def, updo.eq_def, hupo.eq_def, opSto1.eq_def, if_pos, hat1, hae1, hat2, hae2, hi, hk, List.length_map]; rfl) fun fq5 hfq5 => ?_
 simp [qids, asksB, Op.operands, topId] at hfq5
 simp only [updo]
 refine DP.runF1q (by simp (disch := first|omega|(simp only[ln];omega)) [runDf.eq_def, runF1, runF2, stepF.eq_def, updo.eq_def, hupo.eq_def, opSto1.eq_def, if_pos, hat1, hae1, hat2, hae2, hi, hk, List.length_map]; rfl) fun fq6 hfq6 => ?_
 simp [qids, asksB, Op.operands, topId] at hfq6
 simp only [updo]
 refine DP.runF1q (by simp (disch := first|omega|(simp only[ln];omega)) [runDf.eq_def, runF1, runF2, stepF.eq_def, updo.eq_def, hupo.eq_def, opSto1.eq_def, if_pos, hat1, hae1, hat2, hae2, hi, hk, List.length_map]; rfl) fun fq7 hfq7 => ?_
 simp [qids, asksB, Op.operands, topId] at hfq7
 simp only [updo]
 refine .k 2 (fun fs8 hfs8 => ?_) (by simp (disch := first|omega|(simp only[ln];omega)) [runDf.eq_def, runF1, runF2, stepF.eq_def, updo.eq_def, hupo.eq_def, opSto1.eq_def, List.take_succ_cons, List.take_zero, if_pos, hat1, hae1, hat2, hae2, hi, hk, List.length_map]; rfl)
 refine DQ.sto1 (m := 10) [4, 5, 6, 7] _ (by simp (disch := first|omega|(simp only[ln];omega)) [runDf.eq_def, runF1, runF2, stepF.eq_def, updo.eq_def, hupo.eq_def, opSto1.eq_def, if_pos, hat1, hae1, hat2, hae2, hi, hk, List.length_map]; rfl) rfl (by simp only[ln, hfs3, hfs8];omega) (by kernel_rfl) (by intro k f hk hex; simp only [List.mem_cons, List.not_mem_nil, or_false] at hex; rcases hex with rfl | rfl | rfl | rfl <;> (simp [List.getElem?_append, hfs3, hfs8] at hk; subst hk; refine ⟨?_, by first | omega | (simp; done) | (simp; omega)⟩; simp [qids, asksB, Op.operands, Call.operands, topId, numS, numI, Wd, hfq4, hfq5, hfq6, hfq7]; try omega)) ?_
 try simp only []
 refine DQ.sto1 (m := 10) [] _ (by simp (disch := first|omega|(simp only[ln];omega)) [runDf.eq_def, runF1, runF2, stepF.eq_def, updo.eq_def, hupo.eq_def, opSto1.eq_def, if_pos, hat1, hae1, hat2, hae2, hi, hk, List.length_map]; rfl) rfl (by simp only[ln, hfs3, hfs8];omega) (by kernel_rfl) (by intro k f hk hex; simp only [List.not_mem_nil] at hex) ?_
 try simp only []
 refine hK2 _ ?_
 refine .q ?_
 refine .sq fun K10 hK10 => ?_
 refine .d 14 ?_
 refine .k 2 (fun fs11 hfs11 => ?_)
 refine DP.fcall (height_fc S p gS hp) rfl rfl (by simp; rfl) hbS1 (by simp (disch := first|omega|(simp only[ln];omega)) [idf_Wd']) (by simp (disch := first|omega|(simp only[ln];omega))) (by simp) ?_
 simp only [updo]
 refine .k 2 (fun fs12 hfs12 => ?_)
 refine DP.fcall (height_fc T p gT hp) rfl rfl (by simp; rfl) hbS1 (by simp (disch := first|omega|(simp only[ln];omega)) [idf_Wd']) (by simp (disch := first|omega|(simp only[ln];omega))) (by simp) ?_
 simp only [updo]
 refine .f (rcmp_fc (stH S p) (stD S) (stH T p) (stD T) c1 c2 c3 c4 (by omega)) hb87 ?_
 refine .k 1 (fun fs13 hfs13 => ?_)
 refine .f (show FC Tryz.prog 88 [.int .i64 ((S.b.y - S.a.y) * (T.b.x - T.a.x) - (T.b.y - T.a.y) * (S.b.x - S.a.x))] (.int .i64 (sg3 (stR S T))) from signI_fc (stR S T)) hb88 ?_
 refine .k 4 (fun fs14 hfs14 => ?_)
 refine .f (show FC Tryz.prog 86 [.isl (wd .i64 [cm (stH S p * stD T) (stH T p * stD S), sg3 (stR S T), (i : Int) - (k : Int)])] (.int .i64 (orL [stC p S T, sg3 (stR S T), (i : Int) - (k : Int)])) from cmpOr_fc [stC p S T, sg3 (stR S T), (i : Int) - (k : Int)] (by simp)) hb86 ?_
 refine .r 14 (by simp only[ln, hfs11, hfs12, hfs13, hfs14];omega) ?_
 refine hK10 _ ?_
 refine .ret ?_
 exact hK _ _ _ _ trivial ((Fin.m).cast (by rw [← hS, ← hT]; rfl))
end

end Go.Proofs.YtaibemhdfhchfaaGreat

/- Walks: heights over a place, compared (the reference). -/
namespace Go.Proofs.YtaibemhdfhchfaaGreat
open Go Go.RowKit
set_option linter.unusedSimpArgs false
set_option linter.unusedVariables false
set_option maxRecDepth 100000
attribute [local simp] szT2 byT2 agT2 unT2 zoT2 szT3 byT3 agT3 unT3 zoT3 szT4 byT4 agT4 unT4 zoT4 szT24 byT24 agT24 elT24 unT24 zoT24 szT38 byT38 agT38 flT38 fdT38_0 fdT38_1 zoT38 szT40 byT40 agT40 flT40 fdT40_0 fdT40_1 zoT40 szT125 byT125 agT125 elT125 unT125 zoT125 szT127 byT127 agT127 flT127 fdT127_0 fdT127_1 zoT127 szT129 byT129 agT129 flT129 fdT129_0 fdT129_1 fdT129_2 zoT129

theorem nrm_p {w : Int} (h : 0 < w) (x : Int) : nrm w x = x := by unfold nrm; rw [if_neg (by omega)]

section
attribute [local simp] idf_numS cells_numS numS_fold idf_numI cells_numI numI_fold l3A l3C
theorem l3CmpYz_fc {j : Nat} (x y w x' y' w' : Int) (bY : Bg j y) (bW : Bg j w) (bY' : Bg j y') (bW' : Bg j w') (hj : j ≤ 16777216) : FC Tryz.prog 183 [l3A x y w, l3A x' y' w'] (.int .i64 (cm (y * w') (y' * w))) := by
 have hcy : FC Tryz.prog 178 [numS (y * w'), numS (y' * w)] (.int .i64 (cm (y * w') (y' * w))) := l1Cmp_fc (bY.mul bW') (bY'.mul bW) (by omega) (by omega)
 refine .b Tryz.func183 16 (fun nx K hK => ?_) (hi := by simp [idfL, idf, l3A, l3C, idf_Wd'])
 refine .q ?_
 refine .sq fun K2 hK2 => ?_
 refine .d 11 ?_
 refine .k 4 (fun fs3 hfs3 => ?_)
 refine .f (l1Mul_fc bY bW' (by omega) (by omega)) hb182 ?_
 refine .k 4 (fun fs4 hfs4 => ?_)
 refine .f (l1Mul_fc bY' bW (by omega) (by omega)) hb182 ?_
 refine .f hcy hb178 ?_
 refine .r 11 (by simp only[ln, hfs3, hfs4];omega) ?_
 refine hK2 _ ?_
 refine .ret ?_
 exact hK _ _ _ _ trivial (Fin.m)
end
section
attribute [local simp] idf_numS cells_numS numS_fold idf_numI cells_numI numI_fold Sp.av Sp.cells Sg.av Sg.cells Pt.av Pt.cells spA spC numC l3A l3C
set_option maxHeartbeats 8000000 in
theorem l7At_fc (s : Sg) (p : Pt) (gs : s.good = true) (hp : p.ok) (gw : 0 < p.w.v) (hD : 0 < stD s) : FC Tryz.prog 184 [s.av, (l3A p.x.v p.y.v p.w.v)] (l3A (p.x.v * stD s / atG s p) (stH s p / atG s p) (p.w.v * stD s / atG s p)) := by
 obtain ⟨ax0, ax1, ay0, ay1⟩ := Sp.b (good_a gs)
 obtain ⟨bx0, bx1, by0, by1⟩ := Sp.b (good_b gs)
 have pX := W4.bg hp.1
 have pY := W4.bg hp.2.1
 have pW := W4.bg hp.2.2
 have aX : Bg 1 s.a.x := Bg.i64 (by omega) (by omega)
 have aY : Bg 1 s.a.y := Bg.i64 (by omega) (by omega)
 have bX : Bg 1 s.b.x := Bg.i64 (by omega) (by omega)
 have bY : Bg 1 s.b.y := Bg.i64 (by omega) (by omega)
 have dX' : Bg 1 (s.b.x - s.a.x) := Bg.i64 (by omega) (by omega)
 have dY' : Bg 1 (s.b.y - s.a.y) := Bg.i64 (by omega) (by omega)
 have bH : Bg 64 (stH s p) := (((aY.mul dX').mul pW).add ((pX.sub (aX.mul pW)).mul dY')).le (by omega)
 have bX1 : Bg 64 (p.x.v * stD s) := (pX.mul dX').le (by omega)
 have bW1 : Bg 64 (p.w.v * stD s) := (pW.mul dX').le (by omega)
 have hwp : 0 < p.w.v * stD s := Int.mul_pos gw hD
 have l3 : FC Tryz.prog 193 [numS (p.x.v * (s.b.x - s.a.x)), numS (stH s p), numS (p.w.v * (s.b.x - s.a.x))] (l3A (p.x.v * stD s / atG s p) (stH s p / atG s p) (p.w.v * stD s / atG s p)) := by
   have h := l3Make_fc (j := 64) (p.x.v * stD s) (stH s p) (p.w.v * stD s) (by omega) bX1 bH bW1 (by omega) (by omega)
   rw [nrm_p hwp, nrm_p hwp, nrm_p hwp] at h
   exact h
 have hadd : FC Tryz.prog 192 [numS (s.a.y * (s.b.x - s.a.x) * p.w.v), numS ((s.b.y - s.a.y) * (p.x.v - s.a.x * p.w.v))] (numS (stH s p)) := by
   have h := l1Add_fc ((aY.mul dX').mul pW) (dY'.mul (pX.sub (aX.mul pW))) (by omega) (by omega)
   rw [Int.mul_comm (s.b.y - s.a.y)] at h ⊢
   exact h
 refine .b Tryz.func184 56 (fun nx K hK => ?_) (hi := by simp [idfL, idf, Sp.av, Sp.cells, Sg.av, Sg.cells, l3A, l3C, idf_Wd']) (hr := by simp [idf, idfL, l3A, l3C, idf_Wd'])
 refine .q ?_
 refine .sq fun K2 hK2 => ?_
 refine .region ?_
 refine .kf 7 (l1Int_fc (s.b.x - s.a.x) (by omega) (by omega)) hb180 ?_
 refine .e ?_
 refine hK2 _ ?_
 refine .sq fun K3 hK3 => ?_
 refine .region ?_
 refine .kf 7 (l1Int_fc (s.b.y - s.a.y) (by omega) (by omega)) hb180 ?_
 refine .e ?_
 refine hK3 _ ?_
 refine .sq fun K4 hK4 => ?_
 refine .d 23 ?_
 refine .k 3 (fun fs5 hfs5 => ?_)
 refine .f (l1Int_fc s.a.y (by omega) (by omega)) hb180 ?_
 refine .k 1 (fun fs6 hfs6 => ?_)
 refine .f (l1Mul_fc aY dX' (by omega) (by omega)) hb182 ?_
 refine .k 2 (fun fs7 hfs7 => ?_)
 refine .f (l1Mul_fc (aY.mul dX') pW (by omega) (by omega)) hb182 ?_
 refine .k 6 (fun fs8 hfs8 => ?_)
 refine .f (l1Int_fc s.a.x (by omega) (by omega)) hb180 ?_
 refine .k 2 (fun fs9 hfs9 => ?_)
 refine .f (l1Mul_fc aX pW (by omega) (by omega)) hb182 ?_
 refine .f (l1Sub_fc pX (aX.mul pW) (by omega) (by omega)) hb245 ?_
 refine .f (l1Mul_fc dY' (pX.sub (aX.mul pW)) (by omega) (by omega)) hb182 ?_
 refine .f hadd hb192 ?_
 refine .k 1 (fun fs10 hfs10 => ?_)
 refine .r 23 (by simp only[ln, hfs5, hfs6, hfs7, hfs8, hfs9, hfs10];omega) ?_
 refine hK4 _ ?_
 refine .sq fun K11 hK11 => ?_
 refine .d 10 ?_
 refine .k 3 (fun fs12 hfs12 => ?_)
 refine .f (l1Mul_fc pX dX' (by omega) (by omega)) hb182 ?_
 refine .k 4 (fun fs13 hfs13 => ?_)
 refine .f (l1Mul_fc pW dX' (by omega) (by omega)) hb182 ?_
 refine .f l3 hb193 ?_
 refine .r 10 (by simp only[ln, hfs12, hfs13];omega) ?_
 refine hK11 _ ?_
 refine .ret ?_
 exact hK _ _ _ _ trivial ((Fin.m))
set_option maxHeartbeats 8000000 in
theorem l7Below_fc (L : List Sg) (p : Pt) (hp : p.ok) (gw : 0 < p.w.v) (hL : L.length ≤ 40) (hg : ∀ s ∈ L, s.good = true) (i k : Nat) (hi : i < L.length) (hk : k < L.length) (dS : 0 < stD (gq L i)) (dT : 0 < stD (gq L k)) : FC Tryz.prog 94 [.isl (L.map Sg.cells), .int .i64 (i : Int), .int .i64 (k : Int), (l3A p.x.v p.y.v p.w.v)] (.bool (stQ p (gq L i) (gq L k) i k)) := by
 have hat1 : (L.map Sg.cells)[i]? = some (Sg.cells (gq L i)) := by rw [List.getElem?_map, gq_get hi]; rfl
 have hae1 : ∀ h : i < (L.map Sg.cells).length, (L.map Sg.cells)[i] = Sg.cells (gq L i) := fun h => by rw [List.getElem?_eq_getElem h] at hat1; simpa using hat1
 have hat2 : (L.map Sg.cells)[k]? = some (Sg.cells (gq L k)) := by rw [List.getElem?_map, gq_get hk]; rfl
 have hae2 : ∀ h : k < (L.map Sg.cells).length, (L.map Sg.cells)[k] = Sg.cells (gq L k) := fun h => by rw [List.getElem?_eq_getElem h] at hat2; simpa using hat2
 have gS := hg _ (gq_mem hi)
 have gT := hg _ (gq_mem hk)
 have hlk : k ≤ 40 := by omega
 obtain ⟨S, hS⟩ : ∃ S, S = gq L i := ⟨_, rfl⟩
 obtain ⟨T, hT⟩ : ∃ T, T = gq L k := ⟨_, rfl⟩
 rw [← hS] at hat1 hae1 gS dS
 rw [← hT] at hat2 hae2 gT dT
 obtain ⟨a1, a2, a3, a4⟩ := Sp.b (good_a gS)
 obtain ⟨a5, a6, a7, a8⟩ := Sp.b (good_b gS)
 obtain ⟨b1, b2, b3, b4⟩ := Sp.b (good_a gT)
 obtain ⟨b5, b6, b7, b8⟩ := Sp.b (good_b gT)
 have m1 := mul_b (u := S.b.y - S.a.y) (v := T.b.x - T.a.x) (m := 2000000) (n := 2000000) (by omega) (by omega) (by omega) (by omega) (by omega)
 have m2 := mul_b (u := T.b.y - T.a.y) (v := S.b.x - S.a.x) (m := 2000000) (n := 2000000) (by omega) (by omega) (by omega) (by omega) (by omega)
 have pX := W4.bg hp.1
 have pW := W4.bg hp.2.2
 have bg1 : ∀ x : Int, -2000000 ≤ x → x ≤ 2000000 → Bg 1 x := fun x h1 h2 => Bg.i64 (by omega) (by omega)
 have bH : ∀ s : Sg, -1000000 ≤ s.a.x → s.a.x ≤ 1000000 → -1000000 ≤ s.a.y → s.a.y ≤ 1000000 → -1000000 ≤ s.b.x → s.b.x ≤ 1000000 → -1000000 ≤ s.b.y → s.b.y ≤ 1000000 → Bg 64 (stH s p) ∧ Bg 64 (stD s) := fun s h1 h2 h3 h4 h5 h6 h7 h8 =>
   ⟨(((bg1 s.a.y (by omega) (by omega)).mul (bg1 (s.b.x - s.a.x) (by omega) (by omega))).mul pW |>.add ((pX.sub ((bg1 s.a.x (by omega) (by omega)).mul pW)).mul (bg1 (s.b.y - s.a.y) (by omega) (by omega)))).le (by omega), (bg1 (s.b.x - s.a.x) (by omega) (by omega)).le (by omega)⟩
 obtain ⟨c1, c2⟩ := bH S a1 a2 a3 a4 a5 a6 a7 a8
 obtain ⟨c3, c4⟩ := bH T b1 b2 b3 b4 b5 b6 b7 b8
 have wb := fun (s : Sg) (h : Bg 64 (stD s)) => pW.mul h
 have hcy : FC Tryz.prog 183 [l3A (p.x.v * stD S / atG S p) (stH S p / atG S p) (p.w.v * stD S / atG S p), l3A (p.x.v * stD T / atG T p) (stH T p / atG T p) (p.w.v * stD T / atG T p)] (.int .i64 (stC p S T)) := by
   have g1 : 0 < atG S p := gcd3_pos (Int.ne_of_gt (Int.mul_pos gw dS))
   have g2 : 0 < atG T p := gcd3_pos (Int.ne_of_gt (Int.mul_pos gw dT))
   have h := l3CmpYz_fc (j := 128) (p.x.v * stD S / atG S p) (stH S p / atG S p) (p.w.v * stD S / atG S p) (p.x.v * stD T / atG T p) (stH T p / atG T p) (p.w.v * stD T / atG T p) ((c1.div g1).le (by omega)) (((wb S c2).div g1).le (by omega)) ((c3.div g2).le (by omega)) (((wb T c4).div g2).le (by omega)) (by omega)
   rw [at_cm gw dS dT] at h
   exact h
 obtain ⟨C, hC⟩ : ∃ C, C = stC p S T := ⟨_, rfl⟩
 rw [← hC] at hcy
 obtain ⟨W, hW⟩ : ∃ W, W = (S.b.x - S.a.x) * (T.b.y - T.a.y) - (S.b.y - S.a.y) * (T.b.x - T.a.x) := ⟨_, rfl⟩
 have hWR : stR S T = -W := by rw [hW]; unfold stR; rw [Int.mul_comm (T.b.y - T.a.y)]; omega
 rw [Int.mul_comm (T.b.y - T.a.y)] at m2
 refine .b Tryz.func94 70 (fun nx K hK => ?_) (hi := by simp [idfL, idf, idfLL_iff, Sp.av, Sp.cells, Sg.av, Sg.cells, l3A, l3C, idf_Wd'])
 refine .q ?_
 refine .q ?_ (by simp (disch := first|omega|(simp only[ln];omega)) [if_pos, hat1, hae1, hi, List.length_map]; rfl)
 refine .q ?_ (by simp (disch := first|omega|(simp only[ln];omega)) [if_pos, hat2, hae2, hk, List.length_map]; rfl)
 refine .sq fun K4 hK4 => ?_
 refine .d 7 ?_
 refine .k 2 (fun fs5 hfs5 => ?_)
 refine .f (l7At_fc S p gS hp gw dS) hb184 ?_
 refine .k 2 (fun fs6 hfs6 => ?_)
 refine .f (l7At_fc T p gT hp gw dT) hb184 ?_
 refine .f hcy hb183 ?_
 refine .r 7 (by simp only[ln, hfs5, hfs6];omega) ?_
 refine hK4 _ ?_
 refine .sq fun K7 hK7 => ?_
 refine .q ?_
 refine .c (t := C != 0) (fun h29 => ?_) (fun h29 => ?_) (by simp (disch := first|omega|(simp only[ln];omega)) [bne])
 ·
  have hne : C ≠ 0 := by simpa using h29
  refine .q ?_
  refine .ret ?_
  exact hK _ _ _ _ trivial ((Fin.m).cast (by rw [← hS, ← hT]; unfold stQ stV orL orL orL orL; rw [← hC, hWR]; rw [if_pos hne]))
 ·
  have hne : ¬ C ≠ 0 := by simpa using h29
  refine .skip ?_
  refine hK7 _ ?_
  refine .q ?_ (by simp (disch := first|omega|(simp only[ln];omega)) [← hW]; rfl)
  refine .sq fun K11 hK11 => ?_
  refine .q ?_
  refine .c (t := W != 0) (fun h64 => ?_) (fun h64 => ?_) (by simp (disch := first|omega|(simp only[ln];omega)) [bne])
  ·
   have hnw : W ≠ 0 := by simpa using h64
   refine .q ?_
   refine .ret ?_
   exact hK _ _ _ _ trivial ((Fin.m).cast (by rw [← hS, ← hT]; unfold stQ stV orL orL orL orL; rw [← hC, hWR]; rw [if_neg hne]; unfold sg3; split <;> (try split) <;> simp <;> omega))
  ·
   have hnw : ¬ W ≠ 0 := by simpa using h64
   have hw0 : W = 0 := by omega
   refine .skip ?_
   refine hK11 _ ?_
   refine .q ?_
   refine .ret ?_
   exact hK _ _ _ _ trivial ((Fin.m).cast (by rw [← hS, ← hT]; unfold stQ stV orL orL orL orL; rw [← hC, hWR]; rw [if_neg hne, hw0]; unfold sg3; simp; omega))
end

end Go.Proofs.YtaibemhdfhchfaaGreat

/- Walks: the status' numbers, sorted. -/
namespace Go.Proofs.YtaibemhdfhchfaaGreat
open Go Go.RowKit
set_option linter.unusedSimpArgs false
set_option linter.unusedVariables false
set_option maxRecDepth 100000
attribute [local simp] szT2 byT2 agT2 unT2 zoT2 szT3 byT3 agT3 unT3 zoT3 szT32 byT32 agT32 elT32 unT32 zoT32

section
attribute [local simp] runDf.eq_def runF1 runF2 stepF.eq_def updo.eq_def hupo.eq_def opSto1.eq_def runQ runT qOk.eq_def qnone asksB.eq_def topId.eq_def Op.operands List.take_succ_cons List.take_zero List.drop_succ_cons List.drop_zero
set_option maxHeartbeats 1000000 in
theorem insI0_ac (f : Nat) (caps : List AV) (id : Nat) (HP : Heap) (nx : Nat) (hH : HP id = some (1, [])) : ACall Tryz.prog 242 [.osl id 0 0, .int .i64 0, .int .i64 0, .fn f caps] HP nx (fun r H' nx' => r = .tup [] ∧ H' = HP ∧ nx ≤ nx') := by
 refine .b Tryz.func242 53 fun K hK => ?_
 refine .q ?_
 refine .block ?_
 refine .loop (fun N st => (N = 1) ∧ (st.heap = HP) ∧ (nx ≤ st.nx) ∧ st.env 0 = .osl id 0 0 ∧ st.env 1 = .int .i64 0 ∧ st.env 2 = .int .i64 0 ∧ st.env 3 = .fn f caps ∧ st.env 8 = .int .i64 1 ∧ st.nt = 53) (1) (by refine ⟨rfl, rfl, by simp, ?_, ?_, ?_, ?_, ?_, rfl⟩ <;> first|(simp (disch := omega);done)|omega|(simp;done)|(simp;omega)) ?_
 rintro N ⟨e0, H, mm, nt⟩ ⟨rfl, rfl, hnx, g0, g1, g2, g3, g8, rfl⟩
 simp only [] at g0 g1 g2 g3 g8 hnx
 refine .sq fun K2 hK2 => ?_
 refine .q ?_ (by simp (disch := first|omega|(simp only[ln];omega)) [g8, g2]; rfl)
 refine .c (t := false) (fun h14 => ?_) (fun h14 => ?_)
 ·simp at h14
 ·try simp only[dc]at h14
  
  refine .exit ?_
  exact hK _ _ _ _ _ trivial (Fin.m) (⟨rfl, rfl, hnx⟩)
set_option maxHeartbeats 1000000 in
theorem stableI0_ac (f : Nat) (caps : List AV) (id : Nat) (HP : Heap) (nx : Nat) (hH : HP id = some (1, [])) : ACall Tryz.prog 174 [.osl id 0 0, .int .i64 0, .fn f caps] HP nx (fun r H' nx' => r = .tup [] ∧ H' = HP ∧ nx ≤ nx') := by
 refine .b Tryz.func174 63 fun K hK => ?_
 refine .q ?_
 refine .q ?_
 refine .sq fun K3 hK3 => ?_
 refine .block ?_
 refine .loop (fun N st => (N = 1) ∧ (st.heap = HP) ∧ (nx ≤ st.nx) ∧ st.env 0 = .osl id 0 0 ∧ st.env 1 = .int .i64 0 ∧ st.env 2 = .fn f caps ∧ st.env 6 = .int .i64 20 ∧ st.env 7 = .int .i64 0 ∧ st.env 8 = .int .i64 20 ∧ st.nt = 63) (1) (by refine ⟨rfl, rfl, by simp, ?_, ?_, ?_, ?_, ?_, ?_, rfl⟩ <;> first|(simp (disch := omega);done)|omega|(simp;done)|(simp;omega)) ?_
 rintro N ⟨e0, H, mm, nt⟩ ⟨rfl, hHP, hnx, g0, g1, g2, g6, g7, g8, rfl⟩
 simp only [] at g0 g1 g2 g6 g7 g8 hHP hnx
 refine .sq fun K4 hK4 => ?_
 refine .q ?_ (by simp (disch := first|omega|(simp only[ln];omega)) [g8, g1]; rfl)
 refine .c (t := false) (fun h13 => ?_) (fun h13 => ?_)
 ·simp at h13
 ·try simp only[dc]at h13
  
  refine .exit ?_
  refine hK3 _ ?_
  refine .sq fun K6 hK6 => ?_
  refine .region ?_
  refine .k 4 ?_ (by simp (disch := first|omega|(simp only[ln];omega)) [List.take_succ_cons, List.take_zero, g0, g1, g2, g6, g7, g8]; rfl)
  refine .a (insI0_ac f caps id _ _ (by simp only []; rw [hHP]; exact hH)) hb242 ?_ (ha := by simp (disch := first|omega|(simp only[ln];omega)) [idf_Wd', g0, g1, g2, g6, g7, g8])
  rintro _ _ nx4 ⟨rfl, rfl, hn4⟩
  simp only [] at hn4
  refine .nil ?_
  refine hK6 _ ?_
  refine .block ?_
  refine .loop (fun N st => (N = 1) ∧ (st.heap = HP) ∧ (nx ≤ st.nx) ∧ st.env 1 = .int .i64 0 ∧ st.env 6 = .int .i64 20 ∧ st.nt = 63) (1) (by refine ⟨rfl, by simp [hHP], by simp; omega, ?_, ?_, rfl⟩ <;> first|(simp (disch := omega) [g0, g1, g2, g6, g7, g8];done)|omega|(simp;done)|(simp;omega)) ?_
  rintro N ⟨e0, H, mm, nt⟩ ⟨rfl, rfl, hnb, g1b, g6b, rfl⟩
  simp only [] at g1b g6b hnb
  refine .sq fun K7 hK7 => ?_
  refine .q ?_ (by simp (disch := first|omega|(simp only[ln];omega)) [g6b, g1b]; rfl)
  refine .c (t := false) (fun h30 => ?_) (fun h30 => ?_)
  ·simp at h30
  ·try simp only[dc]at h30
   
   refine .exit ?_
   exact hK _ _ _ _ _ trivial (Fin.m) (⟨rfl, rfl, by first|assumption|(simp;omega)⟩)
end
set_option maxHeartbeats 1000000 in
theorem sortStableI0_ac (f : Nat) (caps : List AV) (id : Nat) (HP : Heap) (nx : Nat) (hH : HP id = some (1, [])) : ACall Tryz.prog 84 [.osl id 0 0, .fn f caps] HP nx (fun r H' nx' => r = .tup [] ∧ H' = HP ∧ nx ≤ nx') := by
 refine .b Tryz.func84 9 fun K hK => ?_
 refine .region ?_
 refine .k 4 ?_ (by simp (disch := first|omega|(simp only[ln];omega)) [List.take_succ_cons, List.take_zero, len_Wd (P := Tryz.prog) #[32] rfl elT32, hH]; rfl)
 refine .a (stableI0_ac f caps id _ _ hH) hb174 ?_ (ha := by simp (disch := first|omega|(simp only[ln];omega)) [idf_Wd', len_Wd (P := Tryz.prog) #[32] rfl elT32, hH])
 rintro _ _ nx4 ⟨rfl, rfl, hn4⟩
 simp only [] at hn4
 refine .nil ?_
 exact hK _ _ _ _ _ trivial (Fin.m) (⟨rfl, rfl, by first|assumption|(simp;omega)⟩)

theorem stA_rw (L : List Sg) (p : Pt) (n : Nat) (hn : n = L.length) : rwA (fun x : StI L => [AV.int .i64 (x.1 : Int)]) (stA L p) = wd .i64 (svZ L p n) := by
  subst hn
  unfold rwA wd svZ
  rw [← stA_list]; simp
theorem stSort_ac (L : List Sg) (p : Pt) (hp : p.ok) (hL : L.length ≤ 19) (hg : ∀ s ∈ L, s.good = true) (m id : Nat) (hm : m = (svZ L p L.length).length) (HP : Heap) (nx : Nat) (hH : HP id = some (1, wd .i64 (svZ L p L.length))) (hid : id < nx) :
    ACall Tryz.prog 84 [.osl id 0 m, .fn 85 [.ip [.isl (L.map Sg.cells)], .ip [.fn 81 [.ip (spC p.x.v p.y.v p.w.v)]]]] HP nx (fun r H' nx' => r = .tup [] ∧ H' = hupd HP id (some (1, wd .i64 (stZ L p))) ∧ nx ≤ nx') := by
  have hle := svL_len L p L.length
  have hzl : (svZ L p L.length).length = (svL L p L.length).length := by simp [svZ]
  by_cases h0 : svL L p L.length = []
  · have hz : svZ L p L.length = [] := by simp [svZ, h0]
    have hs : stZ L p = [] := by
      have := stI_len L p L.length
      rw [h0] at this
      simp [stZ, List.eq_nil_of_length_eq_zero this]
    rw [hz] at hm hH
    rw [hs, hm, hupd_id hH]
    exact sortStableI0_ac _ _ id HP nx hH
  · obtain ⟨k, hk⟩ : ∃ k, k ∈ svL L p L.length := List.exists_mem_of_ne_nil _ h0
    haveI : Inhabited (StI L) := ⟨⟨k, (svL_mem.1 hk).1, stB_D (svL_mem.1 hk).2⟩⟩
    have hsz : (stA L p).size = m := by rw [hm, hzl, ← stA_list]; simp
    have h := sortStableI_ac (fun x : StI L => (x.1 : Int)) (stCv L p) 85 [.ip [.isl (L.map Sg.cells)], .ip [.fn 81 [.ip (spC p.x.v p.y.v p.w.v)]]] ⟨hbS2, fun x y => statusCmp_fc L p hp (by omega) hg x.1 y.1 x.2.1 y.2.1⟩ (stA L p) m id HP nx hsz (by rw [hH, stA_rw L p _ rfl]) hid (by omega) (by omega)
    rw [← hsz] at h ⊢
    have e : rwA (fun x : StI L => [AV.int .i64 (x.1 : Int)]) (Sort.insertionSort (ltc (stCv L p)) (stA L p) 0 (stA L p).size) = wd .i64 (stZ L p) := by
      unfold rwA wd stZ
      rw [← stA_sort]; simp
    rw [e] at h
    exact h

end Go.Proofs.YtaibemhdfhchfaaGreat

/- Walks: StatusAt, walked. -/
namespace Go.Proofs.YtaibemhdfhchfaaGreat
open Go Go.RowKit
set_option linter.unusedSimpArgs false
set_option linter.unusedVariables false
set_option maxRecDepth 100000
attribute [local simp] szT2 byT2 agT2 unT2 zoT2 szT3 byT3 agT3 unT3 zoT3 szT4 byT4 agT4 unT4 zoT4 szT24 byT24 agT24 elT24 unT24 zoT24 szT27 byT27 agT27 flT27 fdT27_0 fdT27_1 fdT27_2 fdT27_3 zoT27 szT29 byT29 agT29 flT29 fdT29_0 fdT29_1 fdT29_2 zoT29 szT32 byT32 agT32 elT32 unT32 zoT32 szT38 byT38 agT38 flT38 fdT38_0 fdT38_1 zoT38 szT40 byT40 agT40 flT40 fdT40_0 fdT40_1 zoT40 szT108 byT108 agT108 elT108 unT108 zoT108 szT110 byT110 agT110 flT110 fdT110_0 fdT110_1 zoT110 szT112 byT112 agT112 flT112 fdT112_0 fdT112_1 fdT112_2 zoT112 szT119 byT119 agT119

theorem svZ_yes {L : List Sg} {p : Pt} {i : Nat} (h : stB (gq L i) p = true) : svZ L p (i + 1) = svZ L p i ++ [(i : Int)] := by rw [svZ_step, if_pos h]
theorem svZ_no {L : List Sg} {p : Pt} {i : Nat} (h : stB (gq L i) p = false) : svZ L p (i + 1) = svZ L p i := by rw [svZ_step, h]; rfl
theorem zoFn : zOf Tryz.prog 119 = some [.junk] := by kernel_rfl
section
attribute [local simp] idf_numS cells_numS numS_fold idf_numI cells_numI numI_fold Sp.av Sp.cells Sg.av Sg.cells Pt.av Pt.cells spA spC numC
set_option maxHeartbeats 1000000 in
theorem statusNoI (L : List Sg) (p : Pt) (hp : p.ok) (hl : L.length ≤ 1099511627776) (hz : ¬ (sgF L = 0 ∧ p.good = true)) : FC Tryz.prog 16 [.isl (L.map Sg.cells), p.av] (.nsl) := by
 refine .b Tryz.func16 71 (fun nx K hK => ?_) (hi := by simp [idfL, idf, idfLL_iff, Sg.cells, Pt.av, Pt.cells])
 refine .q ?_
 refine .sq fun K2 hK2 => ?_
 refine .sq fun K3 hK3 => ?_
 by_cases z : sgF L = 0
 ·have hd : decide (sgF L = 0) = true := decide_eq_true z
  have hg : p.good = false := by cases h : p.good with | false => rfl | true => exact absurd ⟨z, h⟩ hz
  refine .region ?_
  refine .kf 1 (areSegs_fc L hl) hb75 ?_ (by simp (disch := first|omega|(simp only[ln];omega)) [List.take_succ_cons, List.take_zero, hd, hg]; rfl) (ha := by simp (disch := first|omega|(simp only[ln];omega)) [idf_Wd', hd, hg])
  refine .kf 3 (pointOkI_fc p hp) hb76 ?_ (by simp (disch := first|omega|(simp only[ln];omega)) [List.take_succ_cons, List.take_zero, hd, hg]; rfl) (ha := by simp (disch := first|omega|(simp only[ln];omega)) [idf_Wd', hd, hg])
  refine .e ?_ (by simp (disch := first|omega|(simp only[ln];omega)) [hd, hg]; rfl)
  refine hK3 _ ?_
  refine .c (fun h17 => ?_) (fun h17 => ?_)
  ·try simp only[dc]at h17
   refine .q ?_
   refine .ret ?_
   exact hK _ _ _ _ trivial ((Fin.mk (by simp (disch := omega) [aRes, aResL, aRes1]; try rfl)))
  ·simp at h17
 ·have hd : decide (sgF L = 0) = false := decide_eq_false z
  refine .region ?_
  refine .kf 1 (areSegs_fc L hl) hb75 ?_ (by simp (disch := first|omega|(simp only[ln];omega)) [List.take_succ_cons, List.take_zero, hd]; rfl) (ha := by simp (disch := first|omega|(simp only[ln];omega)) [idf_Wd', hd])
  refine .e ?_ (by simp (disch := first|omega|(simp only[ln];omega)) [hd]; rfl)
  refine hK3 _ ?_
  refine .c (fun h17 => ?_) (fun h17 => ?_)
  ·try simp only[dc]at h17
   refine .q ?_
   refine .ret ?_
   exact hK _ _ _ _ trivial ((Fin.mk (by simp (disch := omega) [aRes, aResL, aRes1]; try rfl)))
  ·simp at h17
set_option maxHeartbeats 8000000 in
theorem statusI_own (L : List Sg) (p : Pt) (hp : p.ok) (hl : L.length ≤ 19) (zs : sgF L = 0) (hg : p.good = true) (nx : Nat) : ACall Tryz.prog 16 [.isl (L.map Sg.cells), p.av] (fun _ => none) nx (own1 nx 1 (wd .i64 (stZ L p)) (fun id => .osl id 0 (stZ L p).length)) := by
 obtain ⟨z1, z2⟩ := sgF_zero zs
 have hd : decide (sgF L = 0) = true := decide_eq_true zs
 refine .b Tryz.func16 71 fun K hK => ?_
 refine .q ?_
 refine .sq fun K2 hK2 => ?_
 refine .sq fun K3 hK3 => ?_
 refine .region ?_
 refine .kf 1 (areSegs_fc L (by omega)) hb75 ?_ (by simp (disch := first|omega|(simp only[ln];omega)) [List.take_succ_cons, List.take_zero, hd, hg]; rfl) (ha := by simp (disch := first|omega|(simp only[ln];omega)) [idf_Wd', hd, hg])
 refine .kf 3 (pointOkI_fc p hp) hb76 ?_ (by simp (disch := first|omega|(simp only[ln];omega)) [List.take_succ_cons, List.take_zero, hd, hg]; rfl) (ha := by simp (disch := first|omega|(simp only[ln];omega)) [idf_Wd', hd, hg])
 refine .e ?_ (by simp (disch := first|omega|(simp only[ln];omega)) [hd, hg]; rfl)
 refine hK3 _ ?_
 refine .c (fun h17 => ?_) (fun h17 => ?_)
 ·simp at h17
 ·try simp only[dc]at h17
  refine .skip ?_
  refine hK2 _ ?_
  refine .sq fun K4 hK4 => ?_
  refine .region ?_
  refine .kf 1 (spot_fc p hp) hb77 ?_
  refine .e ?_
  refine hK4 _ ?_
  refine .sq fun K5 hK5 => ?_
  refine AWP.frz1 2 nx 1 [[.isl (L.map Sg.cells)]] (.ip [.isl (L.map Sg.cells)]) (by simp (disch := omega)) (by simp (disch := omega) [fz]) ?_
  refine AWP.frz1 5 (nx + 1 + 1 + 1) 6 [(spC p.x.v p.y.v p.w.v)] (.ip (spC p.x.v p.y.v p.w.v)) (by simp (disch := omega) [spC]) (by simp (disch := omega) [fz, spC]) ?_
  refine .q ?_ (by simp (disch := first|omega|(simp only[ln];omega)) [List.length_map]; rfl)
  refine .block ?_
  
  refine .loop (fun N s => ∃ i : Nat, ∃ C : List Int, ∃ io : Nat, N = L.length - i ∧ i ≤ L.length ∧ (C = svZ L p i) ∧ (nx ≤ io) ∧ s.env 2 = .ip [.isl (L.map Sg.cells)] ∧ s.env 5 = .ip (spC p.x.v p.y.v p.w.v) ∧ s.env 6 = .osl io 0 C.length ∧ s.env 21 = .isl (L.map Sg.cells) ∧ s.env 22 = .int .i64 (L.length : Int) ∧ s.env 23 = .int .i64 (i : Int) ∧ s.heap io = some (1, wd .i64 C) ∧ io < s.nx ∧ s.nt = 71) (L.length) (by refine ⟨0, [], (nx + 1 + 1), by omega, by omega, rfl, by omega, ?_, ?_, ?_, ?_, ?_, ?_, ?_, ?_, rfl⟩ <;> first|(simp (disch := omega) [wd];done)|omega|(simp;done)|(simp;omega)) ?_
  rintro N ⟨e, H, mm, nt⟩ ⟨i, C, io, rfl, hi, hC, hio, g2, g5, g6, g21, g22, g23, Ho, xo, rfl⟩
  simp only [] at g2 g5 g6 g21 g22 g23 Ho xo
  refine .q ?_ (by simp (disch := first|omega|(simp only[ln];omega)) [g22, g23]; rfl)
  refine .sq fun K8 hK8 => ?_
  refine .c (fun h24 => ?_) (fun h24 => ?_)
  ·try simp only[dc]at h24
   have hi' : i < L.length := by omega
   have hat := gq_get hi'
   obtain ⟨s0, hs0⟩ : ∃ s0, s0 = gq L i := ⟨_, rfl⟩
   have gs := z2 _ (gq_mem hi')
   rw [← hs0] at gs
   obtain ⟨ax0, ax1, ay0, ay1⟩ := Sp.b (good_a gs)
   obtain ⟨bx0, bx1, by0, by1⟩ := Sp.b (good_b gs)
   have pX := W4.bg hp.1
   have pY := W4.bg hp.2.1
   have pW := W4.bg hp.2.2
   have aX : Bg 1 s0.a.x := Bg.i64 (by omega) (by omega)
   have aY : Bg 1 s0.a.y := Bg.i64 (by omega) (by omega)
   have bX : Bg 1 s0.b.x := Bg.i64 (by omega) (by omega)
   have bY : Bg 1 s0.b.y := Bg.i64 (by omega) (by omega)
   have dX' : Bg 1 (s0.b.x - s0.a.x) := Bg.i64 (by omega) (by omega)
   have dY' : Bg 1 (s0.b.y - s0.a.y) := Bg.i64 (by omega) (by omega)
   have hat2 : (L.map Sg.cells)[i]? = some (Sg.cells s0) := by rw [List.getElem?_map, hat, hs0]; rfl
   have hae2 : ∀ h : i < (L.map Sg.cells).length, (L.map Sg.cells)[i] = Sg.cells s0 := fun h => by rw [List.getElem?_eq_getElem h] at hat2; simpa using hat2
   have cA : FC Tryz.prog 78 [numI p.x.v, numI (s0.a.x * p.w.v)] (.int .i64 (ovX s0.a p)) := cmp_fc pX (aX.mul pW) (by omega) (by omega)
   have cB : FC Tryz.prog 78 [numI p.x.v, numI (s0.b.x * p.w.v)] (.int .i64 (ovX s0.b p)) := cmp_fc pX (bX.mul pW) (by omega) (by omega)
   refine .skip ?_
   refine hK8 _ ?_
   refine .sq fun K9 hK9 => ?_
   refine .block ?_
   refine .q ?_ (by simp (disch := first|omega|(simp only[ln];omega)) [if_pos, g2, g5, g6, g21, g22, g23, Ho, hat2, hae2, hi', List.length_map]; rfl)
   refine .sq fun K11 hK11 => ?_
   have J11 : ∀ s : St, ((nx ≤ io) ∧ s.env 2 = .ip [.isl (L.map Sg.cells)] ∧ s.env 5 = .ip (spC p.x.v p.y.v p.w.v) ∧ s.env 6 = .osl io 0 C.length ∧ s.env 21 = .isl (L.map Sg.cells) ∧ s.env 22 = .int .i64 (L.length : Int) ∧ s.env 23 = .int .i64 (i : Int) ∧ s.env 7 = .int .i64 (i : Int) ∧ s.env 60 = .bool (stB s0 p) ∧ s.heap io = some (1, wd .i64 C) ∧ io < s.nx ∧ s.nt = 71) → K11 s := by
    rintro ⟨e0, H, mm, nt⟩ ⟨hio, g2q, g5q, g6q, g21q, g22q, g23q, g7q, g60q, Hoq, xoq, rfl⟩
    simp only [] at g2q g5q g6q g21q g22q g23q g7q g60q Hoq xoq
    refine hK11 _ ?_
    refine .c (t := stB s0 p) (fun h60 => ?_) (fun h60 => ?_) (by simp (disch := first|omega|(simp only[ln];omega)) [g60q])
    ·try simp only[dc]at h60
     rw [hs0] at h60
     have hC' : C ++ [(i : Int)] = svZ L p (i + 1) := by rw [svZ_yes h60, hC]
     have hCl := svZ_len L p i
     rw [← hC] at hCl
     have hc1 : (C.length + 1) * 8 ≤ 140737488355328 := by omega
     have hc2 : C.length ≤ 9223372036854775806 := by omega
     have hwl : (wd .i64 C).length = C.length := List.length_map _
     have htk : List.take C.length (wd .i64 C) = wd .i64 C := List.take_of_length_le (Nat.le_of_eq hwl)
     refine .region ?_
     refine .k 3 ?_ (by simp (disch := first|omega|(simp only[ln];omega)) [List.take_succ_cons, List.take_zero, g2q, g5q, g6q, g21q, g22q, g23q, g7q, g60q, Hoq]; rfl)
     refine AOPS.opapp (by simp (disch := first|omega|(simp only[ln];omega)) [opApp.eq_def, aSrc_isl, aSrc_osl, aSrc_nsl, aSrc_int, wd_app, wd_app2, if_pos, wd_append, wd_take, wd_drop, List.nil_append, hc1, hc2, hwl, htk, Hoq, src_Wd' (P := Tryz.prog) elT32]; first | rfl | exact ⟨rfl, rfl⟩ | exact ⟨rfl, rfl, rfl⟩) (by simp) (by simp) ?_
     simp only [puts_some, hdrop]
     refine .e ?_ (by simp (disch := first|omega|(simp only[ln];omega)) [g2q, g5q, g6q, g21q, g22q, g23q, g7q, g60q, Hoq]; rfl)
     refine hK9 _ ?_
     refine .r ?_ (by simp (disch := first|omega|(simp only[ln];omega)) [g2q, g5q, g6q, g21q, g22q, g23q, g7q, g60q, Hoq]; rfl)
     refine ⟨L.length - (i + 1), by omega, i + 1, C ++ [(i : Int)], (mm + 1), rfl, by omega, hC', by first|omega|(simp;omega), ?_, ?_, ?_, ?_, ?_, ?_, ?_, ?_, rfl⟩ <;> first|(simp (disch := omega) [wd_append, List.length_append, hwl, htk, g2q, g5q, g6q, g21q, g22q, g23q, g7q, g60q, Hoq];done)|omega|(simp;done)|(simp;omega)
    ·try simp only[dc]at h60
     rw [hs0] at h60
     have hC' : C = svZ L p (i + 1) := by rw [svZ_no h60]; exact hC
     refine .skip ?_
     refine hK9 _ ?_
     refine .r ?_ (by simp (disch := first|omega|(simp only[ln];omega)) [g2q, g5q, g6q, g21q, g22q, g23q, g7q, g60q, Hoq]; rfl)
     refine ⟨L.length - (i + 1), by omega, i + 1, C, io, rfl, by omega, hC', hio, ?_, ?_, ?_, ?_, ?_, ?_, ?_, ?_, rfl⟩ <;> first|(simp (disch := omega) [g2q, g5q, g6q, g21q, g22q, g23q, g7q, g60q, Hoq];done)|omega|(simp;done)|(simp;omega)
   by_cases q1 : s0.a.x < s0.b.x
   ·have d1 : decide (s0.a.x < s0.b.x) = true := decide_eq_true q1
    by_cases q2 : 0 ≤ ovX s0.a p
    ·have d2 : decide (ovX s0.a p ≥ 0) = true := decide_eq_true q2
     refine .d 33 ?_
     refine .k 13 (fun fs12 hfs12 => ?_) (by simp (disch := first|omega|(simp only[ln];omega)) [runDf.eq_def, runF1, runF2, stepF.eq_def, updo.eq_def, hupo.eq_def, opSto1.eq_def, List.take_succ_cons, List.take_zero, g2, g5, g6, g21, g22, g23, Ho, d1, d2, q1, q2]; rfl)
     refine .f (whole_fc s0.a.x (by omega) (by omega)) hb79 ?_ (ha := by simp (disch := first|omega|(simp only[ln];omega)) [idf_Wd', g2, g5, g6, g21, g22, g23, Ho, d1, d2, q1, q2])
     refine .k 2 (fun fs13 hfs13 => ?_) (by simp (disch := first|omega|(simp only[ln];omega)) [runDf.eq_def, runF1, runF2, stepF.eq_def, updo.eq_def, hupo.eq_def, opSto1.eq_def, List.take_succ_cons, List.take_zero, g2, g5, g6, g21, g22, g23, Ho, d1, d2, q1, q2]; rfl)
     refine .f (by_fc aX pW (by omega) (by omega)) hb80 ?_ (ha := by simp (disch := first|omega|(simp only[ln];omega)) [idf_Wd', g2, g5, g6, g21, g22, g23, Ho, d1, d2, q1, q2])
     refine .f cA hb78 ?_ (ha := by simp (disch := first|omega|(simp only[ln];omega)) [idf_Wd', g2, g5, g6, g21, g22, g23, Ho, d1, d2, q1, q2])
     refine .k 8 (fun fs14 hfs14 => ?_) (by simp (disch := first|omega|(simp only[ln];omega)) [runDf.eq_def, runF1, runF2, stepF.eq_def, updo.eq_def, hupo.eq_def, opSto1.eq_def, List.take_succ_cons, List.take_zero, g2, g5, g6, g21, g22, g23, Ho, d1, d2, q1, q2]; rfl)
     refine .f (whole_fc s0.b.x (by omega) (by omega)) hb79 ?_ (ha := by simp (disch := first|omega|(simp only[ln];omega)) [idf_Wd', g2, g5, g6, g21, g22, g23, Ho, d1, d2, q1, q2])
     refine .k 2 (fun fs15 hfs15 => ?_) (by simp (disch := first|omega|(simp only[ln];omega)) [runDf.eq_def, runF1, runF2, stepF.eq_def, updo.eq_def, hupo.eq_def, opSto1.eq_def, List.take_succ_cons, List.take_zero, g2, g5, g6, g21, g22, g23, Ho, d1, d2, q1, q2]; rfl)
     refine .f (by_fc bX pW (by omega) (by omega)) hb80 ?_ (ha := by simp (disch := first|omega|(simp only[ln];omega)) [idf_Wd', g2, g5, g6, g21, g22, g23, Ho, d1, d2, q1, q2])
     refine .f cB hb78 ?_ (ha := by simp (disch := first|omega|(simp only[ln];omega)) [idf_Wd', g2, g5, g6, g21, g22, g23, Ho, d1, d2, q1, q2])
     refine .k 2 (fun fs16 hfs16 => ?_) (by simp (disch := first|omega|(simp only[ln];omega)) [runDf.eq_def, runF1, runF2, stepF.eq_def, updo.eq_def, hupo.eq_def, opSto1.eq_def, List.take_succ_cons, List.take_zero, g2, g5, g6, g21, g22, g23, Ho, d1, d2, q1, q2]; rfl)
     refine .r 33 (by simp only[ln, hfs12, hfs13, hfs14, hfs15, hfs16];omega) ?_ (by simp (disch := first|omega|(simp only[ln];omega)) [runDf.eq_def, runF1, runF2, stepF.eq_def, updo.eq_def, hupo.eq_def, opSto1.eq_def, g2, g5, g6, g21, g22, g23, Ho, d1, d2, q1, q2]; rfl)
     refine J11 _ ?_
     refine ⟨hio, ?_, ?_, ?_, ?_, ?_, ?_, ?_, ?_, ?_, ?_, rfl⟩ <;> first|(simp (disch := omega) [g2, g5, g6, g21, g22, g23, Ho, stB, d1, d2, q1, q2];done)|omega|(simp;done)|(simp;omega)
    ·have d2 : decide (ovX s0.a p ≥ 0) = false := decide_eq_false q2
     refine .d 33 ?_
     refine .k 13 (fun fs17 hfs17 => ?_) (by simp (disch := first|omega|(simp only[ln];omega)) [runDf.eq_def, runF1, runF2, stepF.eq_def, updo.eq_def, hupo.eq_def, opSto1.eq_def, List.take_succ_cons, List.take_zero, g2, g5, g6, g21, g22, g23, Ho, d1, d2, q1, q2]; rfl)
     refine .f (whole_fc s0.a.x (by omega) (by omega)) hb79 ?_ (ha := by simp (disch := first|omega|(simp only[ln];omega)) [idf_Wd', g2, g5, g6, g21, g22, g23, Ho, d1, d2, q1, q2])
     refine .k 2 (fun fs18 hfs18 => ?_) (by simp (disch := first|omega|(simp only[ln];omega)) [runDf.eq_def, runF1, runF2, stepF.eq_def, updo.eq_def, hupo.eq_def, opSto1.eq_def, List.take_succ_cons, List.take_zero, g2, g5, g6, g21, g22, g23, Ho, d1, d2, q1, q2]; rfl)
     refine .f (by_fc aX pW (by omega) (by omega)) hb80 ?_ (ha := by simp (disch := first|omega|(simp only[ln];omega)) [idf_Wd', g2, g5, g6, g21, g22, g23, Ho, d1, d2, q1, q2])
     refine .f cA hb78 ?_ (ha := by simp (disch := first|omega|(simp only[ln];omega)) [idf_Wd', g2, g5, g6, g21, g22, g23, Ho, d1, d2, q1, q2])
     refine .k 15 (fun fs19 hfs19 => ?_) (by simp (disch := first|omega|(simp only[ln];omega)) [runDf.eq_def, runF1, runF2, stepF.eq_def, updo.eq_def, hupo.eq_def, opSto1.eq_def, List.take_succ_cons, List.take_zero, g2, g5, g6, g21, g22, g23, Ho, d1, d2, q1, q2]; rfl)
     refine .r 33 (by simp only[ln, hfs17, hfs18, hfs19];omega) ?_ (by simp (disch := first|omega|(simp only[ln];omega)) [runDf.eq_def, runF1, runF2, stepF.eq_def, updo.eq_def, hupo.eq_def, opSto1.eq_def, g2, g5, g6, g21, g22, g23, Ho, d1, d2, q1, q2]; rfl)
     refine J11 _ ?_
     refine ⟨hio, ?_, ?_, ?_, ?_, ?_, ?_, ?_, ?_, ?_, ?_, rfl⟩ <;> first|(simp (disch := omega) [g2, g5, g6, g21, g22, g23, Ho, stB, d1, d2, q1, q2];done)|omega|(simp;done)|(simp;omega)
   ·have d1 : decide (s0.a.x < s0.b.x) = false := decide_eq_false q1
    refine .df 33 ?_ (by simp (disch := first|omega|(simp only[ln];omega)) [runDf.eq_def, runF1, runF2, stepF.eq_def, updo.eq_def, hupo.eq_def, opSto1.eq_def, g2, g5, g6, g21, g22, g23, Ho, d1, q1]; rfl)
    refine J11 _ ?_
    refine ⟨hio, ?_, ?_, ?_, ?_, ?_, ?_, ?_, ?_, ?_, ?_, rfl⟩ <;> first|(simp (disch := omega) [g2, g5, g6, g21, g22, g23, Ho, stB, d1, q1];done)|omega|(simp;done)|(simp;omega)
  ·try simp only[dc]at h24
   have hin : i = L.length := by omega
   subst hin
   have hCs : C.length = (stZ L p).length := by rw [stZ_len, hC]
   rw [hCs] at g6
   refine .exit ?_
   refine hK5 _ ?_
   refine .q ?_ (by simp (disch := first|omega|(simp only[ln];omega)) [g5, g2, zoFn]; rfl)
   refine .sq fun K21 hK21 => ?_
   refine AWP.frz1 9 mm 1 [[.fn 81 [.ip (spC p.x.v p.y.v p.w.v)]]] (.ip [.fn 81 [.ip (spC p.x.v p.y.v p.w.v)]]) (by simp (disch := omega)) (by simp (disch := omega) [fz, fzL, fzLL]) ?_
   refine .region ?_
   refine .k 2 ?_ (by simp (disch := first|omega|(simp only[ln];omega)) [List.take_succ_cons, List.take_zero, g6, g2]; rfl)
   refine .a (stSort_ac L p hp hl z2 (stZ L p).length io (stZ_len L p) _ _ (by simp (disch := omega) [Ho, hC]) (by first|omega|(simp;done)|(simp;omega))) hb84 ?_ (ha := by simp (disch := first|omega|(simp only[ln];omega)) [idf_Wd', g6, g2])
   rintro _ _ nx4 ⟨rfl, rfl, hn4⟩
   simp only [] at hn4
   refine .nil ?_
   refine hK21 _ ?_
   refine .q ?_ (by simp (disch := first|omega|(simp only[ln];omega)) [g6]; rfl)
   refine .ret ?_
   exact hK _ _ _ _ _ trivial (Fin.own1 (Fin.mk (by simp (disch := omega) [aRes, aResL, aRes1]; try rfl)) (id := io) (by simp [Ho])) (⟨io, by first | omega | (simp; done) | (simp; omega), by first | omega | (simp; done) | (simp; omega), rfl, rfl⟩)
end

end Go.Proofs.YtaibemhdfhchfaaGreat

/- Walks: StatusAt of the reference, walked. -/
namespace Go.Proofs.YtaibemhdfhchfaaGreat
open Go Go.RowKit
set_option linter.unusedSimpArgs false
set_option linter.unusedVariables false
set_option maxRecDepth 100000
attribute [local simp] szT2 byT2 agT2 unT2 zoT2 szT3 byT3 agT3 unT3 zoT3 szT24 byT24 agT24 elT24 unT24 zoT24 szT27 byT27 agT27 flT27 fdT27_0 fdT27_1 fdT27_2 fdT27_3 zoT27 szT29 byT29 agT29 flT29 fdT29_0 fdT29_1 fdT29_2 zoT29 szT32 byT32 agT32 elT32 unT32 zoT32 szT38 byT38 agT38 flT38 fdT38_0 fdT38_1 zoT38 szT40 byT40 agT40 flT40 fdT40_0 fdT40_1 zoT40 szT127 byT127 agT127 flT127 fdT127_0 fdT127_1 zoT127 szT129 byT129 agT129 flT129 fdT129_0 fdT129_1 fdT129_2 zoT129

theorem l3CmpXa (a : Sp) (ha : a.good = true) (p : Pt) (hp : p.ok) : FC Tryz.prog 92 [l3A a.x a.y 1, l3A p.x.v p.y.v p.w.v] (.int .i64 (-ovX a p)) := by
  have h := l3CmpX_fc (ptS a) p (pt3_ok _ _ _) hp
  obtain ⟨v1, v2, v3⟩ := ptS_v ha
  rw [v1, v2, v3, cmX_anti, cmX_spot ha p] at h
  exact h
theorem l3CmpXb (b : Sp) (hb : b.good = true) (p : Pt) (hp : p.ok) : FC Tryz.prog 92 [l3A p.x.v p.y.v p.w.v, l3A b.x b.y 1] (.int .i64 (ovX b p)) := by
  have h := l3CmpX_fc p (ptS b) hp (pt3_ok _ _ _)
  obtain ⟨v1, v2, v3⟩ := ptS_v hb
  rw [v1, v2, v3, cmX_spot hb p] at h
  exact h
def nC (k : Nat) : List AV := [.int .i64 (k : Int)]
theorem stZ_nC (L : List Sg) (p : Pt) : (stI L p L.length).map nC = wd .i64 (stZ L p) := by
  unfold wd stZ; rw [List.map_map]; rfl
theorem stB_w {s : Sg} {p : Pt} (hw : 0 < p.w.v) : stB s p = (decide (0 ≤ ovX s.a p) && decide (ovX s.b p < 0)) := by
  unfold stB
  by_cases h1 : 0 ≤ ovX s.a p
  · by_cases h2 : ovX s.b p < 0
    · have e1 : ¬ p.x.v < s.a.x * p.w.v := fun h => by have : ovX s.a p < 0 := cm_neg.2 h; omega
      have e2 : p.x.v < s.b.x * p.w.v := cm_neg.1 h2
      have e3 : s.a.x < s.b.x := Int.lt_of_mul_lt_mul_right (show s.a.x * p.w.v < s.b.x * p.w.v by omega) (Int.le_of_lt hw)
      rw [decide_eq_true e3]; rfl
    · rw [decide_eq_false h2]; simp
  · rw [decide_eq_false h1]; simp
theorem stI_yes {L : List Sg} {p : Pt} {i : Nat} (h : stB (gq L i) p = true) : stI L p (i + 1) = insA (stO L p) (stI L p i) i := by rw [stI_step, if_pos h]
theorem stI_no {L : List Sg} {p : Pt} {i : Nat} (h : stB (gq L i) p = false) : stI L p (i + 1) = stI L p i := by rw [stI_step, h]; rfl

section
attribute [local simp] idf_numS cells_numS numS_fold idf_numI cells_numI numI_fold Sp.av Sp.cells Sg.av Sg.cells Pt.av Pt.cells spA spC numC
set_option maxHeartbeats 1000000 in
theorem statusNoS (L : List Sg) (p : Pt) (hp : p.ok) (hl : L.length ≤ 1099511627776) (hz : ¬ (sgF L = 0 ∧ p.good = true)) : FC Tryz.prog 18 [.isl (L.map Sg.cells), p.av] (.isl []) := by
 refine .b Tryz.func18 79 (fun nx K hK => ?_) (hi := by simp [idfL, idf, idfLL_iff, Sg.cells, Pt.av, Pt.cells])
 refine .q ?_
 refine .q ?_
 refine .sq fun K3 hK3 => ?_
 refine .sq fun K4 hK4 => ?_
 by_cases z : sgF L = 0
 ·have hd : decide (sgF L = 0) = true := decide_eq_true z
  have hg : p.good = false := by cases h : p.good with | false => rfl | true => exact absurd ⟨z, h⟩ hz
  refine .region ?_
  refine .kf 1 (l7Ok_fc L hl) hb89 ?_ (by simp (disch := first|omega|(simp only[ln];omega)) [List.take_succ_cons, List.take_zero, hd, hg]; rfl) (ha := by simp (disch := first|omega|(simp only[ln];omega)) [idf_Wd', hd, hg])
  refine .kf 3 (pointOkS_fc p hp) hb90 ?_ (by simp (disch := first|omega|(simp only[ln];omega)) [List.take_succ_cons, List.take_zero, hd, hg]; rfl) (ha := by simp (disch := first|omega|(simp only[ln];omega)) [idf_Wd', hd, hg])
  refine .e ?_ (by simp (disch := first|omega|(simp only[ln];omega)) [hd, hg]; rfl)
  refine hK4 _ ?_
  refine .c (fun h18 => ?_) (fun h18 => ?_)
  ·try simp only[dc]at h18
   refine .q ?_
   refine .ret ?_
   exact hK _ _ _ _ trivial (((Fin.mk (r := .osl (nx + 1) 0 0) (by simp (disch := omega) [aRes, aResL, aRes1])).freeze (id := nx + 1) (z := 1) (es := []) (by simp)).cast (by simp [fz]))
  ·simp at h18
 ·have hd : decide (sgF L = 0) = false := decide_eq_false z
  refine .region ?_
  refine .kf 1 (l7Ok_fc L hl) hb89 ?_ (by simp (disch := first|omega|(simp only[ln];omega)) [List.take_succ_cons, List.take_zero, hd]; rfl) (ha := by simp (disch := first|omega|(simp only[ln];omega)) [idf_Wd', hd])
  refine .e ?_ (by simp (disch := first|omega|(simp only[ln];omega)) [hd]; rfl)
  refine hK4 _ ?_
  refine .c (fun h18 => ?_) (fun h18 => ?_)
  ·try simp only[dc]at h18
   refine .q ?_
   refine .ret ?_
   exact hK _ _ _ _ trivial (((Fin.mk (r := .osl (nx + 1) 0 0) (by simp (disch := omega) [aRes, aResL, aRes1])).freeze (id := nx + 1) (z := 1) (es := []) (by simp)).cast (by simp [fz]))
  ·simp at h18
end
section
attribute [local simp] idf_numS cells_numS numS_fold idf_numI cells_numI numI_fold Sp.av Sp.cells Sg.av Sg.cells Pt.av Pt.cells spA spC numC l3A l3C
set_option maxHeartbeats 8000000 in
theorem statusS_own (L : List Sg) (p : Pt) (hp : p.ok) (hl : L.length ≤ 1048576) (zs : sgF L = 0) (hg : p.good = true) (nx : Nat) : ACall Tryz.prog 18 [.isl (L.map Sg.cells), p.av] (fun _ => none) nx (own1 nx 1 (wd .i64 (stZ L p)) (fun id => .osl id 0 (stZ L p).length)) := by
 obtain ⟨z1, z2⟩ := sgF_zero zs
 have hd : decide (sgF L = 0) = true := decide_eq_true zs
 have gw := good_pos hg
 refine .b Tryz.func18 79 fun K hK => ?_
 refine .q ?_
 refine .q ?_
 refine .sq fun K3 hK3 => ?_
 refine .sq fun K4 hK4 => ?_
 refine .region ?_
 refine .kf 1 (l7Ok_fc L (by omega)) hb89 ?_ (by simp (disch := first|omega|(simp only[ln];omega)) [List.take_succ_cons, List.take_zero, hd, hg]; rfl) (ha := by simp (disch := first|omega|(simp only[ln];omega)) [idf_Wd', hd, hg])
 refine .kf 3 (pointOkS_fc p hp) hb90 ?_ (by simp (disch := first|omega|(simp only[ln];omega)) [List.take_succ_cons, List.take_zero, hd, hg]; rfl) (ha := by simp (disch := first|omega|(simp only[ln];omega)) [idf_Wd', hd, hg])
 refine .e ?_ (by simp (disch := first|omega|(simp only[ln];omega)) [hd, hg]; rfl)
 refine hK4 _ ?_
 refine .c (fun h18 => ?_) (fun h18 => ?_)
 ·simp at h18
 ·try simp only[dc]at h18
  refine .skip ?_
  refine hK3 _ ?_
  refine .sq fun K5 hK5 => ?_
  refine .region ?_
  refine .kf 1 (l3Of_fc p hp) hb91 ?_
  refine .e ?_
  refine hK5 _ ?_
  refine .sq fun K6 hK6 => ?_
  refine AWP.frz1 6 (nx + 1 + 1) 6 [(l3C p.x.v p.y.v p.w.v)] (.ip (l3C p.x.v p.y.v p.w.v)) (by simp (disch := omega) [l3C]) (by simp (disch := omega) [fz, l3C]) ?_
  refine .q ?_
  refine .block ?_
  
  refine .loop (fun N s => ∃ i : Nat, ∃ A : List Nat, ∃ id : Nat, N = L.length - i ∧ i ≤ L.length ∧ (A = stI L p i) ∧ (nx ≤ id) ∧ s.env 0 = .isl (L.map Sg.cells) ∧ s.env 6 = .ip (l3C p.x.v p.y.v p.w.v) ∧ s.env 5 = .osl id 0 A.length ∧ s.env 7 = .int .i64 (i : Int) ∧ s.heap id = some (1, A.map nC) ∧ id < s.nx ∧ s.nt = 79) (L.length) (by refine ⟨0, [], (nx + 1), by omega, by omega, rfl, by omega, ?_, ?_, ?_, ?_, ?_, ?_, rfl⟩ <;> first|(simp (disch := omega);done)|omega|(simp;done)|(simp;omega)) ?_
  rintro N ⟨e, H, mm, nt⟩ ⟨i, A, id, rfl, hi, hA, hid0, g0, g6, g5, g7, Ho, xo, rfl⟩
  simp only [] at g0 g6 g5 g7 Ho xo
  refine .sq fun K8 hK8 => ?_
  refine .q ?_ (by simp (disch := first|omega|(simp only[ln];omega)) [g0, g7, List.length_map]; rfl)
  refine .c (fun h25 => ?_) (fun h25 => ?_)
  ·try simp only[dc]at h25
   have hi' : i < L.length := by omega
   have hat := gq_get hi'
   obtain ⟨s0, hs0⟩ : ∃ s0, s0 = gq L i := ⟨_, rfl⟩
   have gs := z2 _ (gq_mem hi')
   rw [← hs0] at gs
   obtain ⟨ax0, ax1, ay0, ay1⟩ := Sp.b (good_a gs)
   obtain ⟨bx0, bx1, by0, by1⟩ := Sp.b (good_b gs)
   have pX := W4.bg hp.1
   have pY := W4.bg hp.2.1
   have pW := W4.bg hp.2.2
   have aX : Bg 1 s0.a.x := Bg.i64 (by omega) (by omega)
   have aY : Bg 1 s0.a.y := Bg.i64 (by omega) (by omega)
   have bX : Bg 1 s0.b.x := Bg.i64 (by omega) (by omega)
   have bY : Bg 1 s0.b.y := Bg.i64 (by omega) (by omega)
   have dX' : Bg 1 (s0.b.x - s0.a.x) := Bg.i64 (by omega) (by omega)
   have dY' : Bg 1 (s0.b.y - s0.a.y) := Bg.i64 (by omega) (by omega)
   have hat2 : (L.map Sg.cells)[i]? = some (Sg.cells s0) := by rw [List.getElem?_map, hat, hs0]; rfl
   have hae2 : ∀ h : i < (L.map Sg.cells).length, (L.map Sg.cells)[i] = Sg.cells s0 := fun h => by rw [List.getElem?_eq_getElem h] at hat2; simpa using hat2
   have cA := l3CmpXa s0.a (good_a gs) p hp
   have cB := l3CmpXb s0.b (good_b gs) p hp
   have sA := l3Spot_fc s0.a.x s0.a.y (by omega) (by omega) (by omega) (by omega)
   have sB := l3Spot_fc s0.b.x s0.b.y (by omega) (by omega) (by omega) (by omega)
   have hbw := stB_w (s := s0) gw
   refine .skip ?_
   refine hK8 _ ?_
   refine .sq fun K10 hK10 => ?_
   refine .block ?_
   refine .sq fun K11 hK11 => ?_
   refine .sq fun K12 hK12 => ?_
   have J12 : ∀ s : St, ((nx ≤ id) ∧ s.env 0 = .isl (L.map Sg.cells) ∧ s.env 6 = .ip (l3C p.x.v p.y.v p.w.v) ∧ s.env 5 = .osl id 0 A.length ∧ s.env 7 = .int .i64 (i : Int) ∧ s.env 47 = .bool (!stB s0 p) ∧ s.heap id = some (1, A.map nC) ∧ id < s.nx ∧ s.nt = 79) → K12 s := by
    rintro ⟨e0, H, mm, nt⟩ ⟨hid0, g0b, g6b, g5b, g7b, g47b, Hob, xob, rfl⟩
    simp only [] at g0b g6b g5b g7b g47b Hob xob
    refine hK12 _ ?_
    refine .c (t := !stB s0 p) (fun h47 => ?_) (fun h47 => ?_) (by simp (disch := first|omega|(simp only[ln];omega)) [g47b])
    ·
     rw [hs0] at h47
     have hA' : A = stI L p (i + 1) := by rw [stI_no (by simpa using h47)]; exact hA
     refine .exit ?_
     refine hK10 _ ?_
     refine .r ?_ (by simp (disch := first|omega|(simp only[ln];omega)) [g7b]; rfl)
     refine ⟨L.length - (i + 1), by omega, i + 1, A, id, rfl, by omega, hA', hid0, ?_, ?_, ?_, ?_, ?_, ?_, rfl⟩ <;> first|(simp (disch := omega) [g0b, g6b, g5b, g7b, g47b, Hob];done)|omega|(simp;done)|(simp;omega)
    ·
     rw [hs0] at h47
     have hyes : stB (gq L i) p = true := by simpa using h47
     have dT := stB_D hyes
     obtain ⟨m, hm⟩ : ∃ m, m = A.length := ⟨_, rfl⟩
     obtain ⟨B, hB⟩ : ∃ B, B = A.map nC := ⟨_, rfl⟩
     have hBl : B.length = m := by rw [hB, List.length_map, hm]
     have hmi : m ≤ i := by rw [hm, hA, stI_len]; exact svL_len L p i
     rw [← hm] at g5b
     rw [← hB] at Hob
     refine .skip ?_
     refine hK11 _ ?_
     refine .q ?_
     refine .sq fun K14 hK14 => ?_
     refine .block ?_
     
     refine .loop (fun N s => ∃ j : Nat, N = m - j ∧ j ≤ m ∧ (∀ q, q < j → ∃ y, A[q]? = some y ∧ stO L p y i = true) ∧ (nx ≤ id) ∧ s.env 0 = .isl (L.map Sg.cells) ∧ s.env 6 = .ip (l3C p.x.v p.y.v p.w.v) ∧ s.env 5 = .osl id 0 m ∧ s.env 7 = .int .i64 (i : Int) ∧ s.env 8 = .int .i64 (j : Int) ∧ s.heap id = some (1, B) ∧ id < s.nx ∧ s.nt = 79) (m) (by refine ⟨0, by omega, by omega, fun q h => by omega, by first|omega|exact hid0, ?_, ?_, ?_, ?_, ?_, ?_, ?_, rfl⟩ <;> first|(simp (disch := omega) [g0b, g6b, g5b, g7b, g47b, Hob, hm, hB];done)|omega|(simp;done)|(simp;omega)) ?_
     rintro N ⟨e, H, mm, nt⟩ ⟨j, rfl, hj, hj, hid2, g0j, g6j, g5j, g7j, g8j, Hoj, xoj, rfl⟩
     simp only [] at g0j g6j g5j g7j g8j Hoj xoj
     refine .sq fun K15 hK15 => ?_
     refine .sq fun K16 hK16 => ?_
     have J16 : ∀ s : St, ((nx ≤ id) ∧ s.env 0 = .isl (L.map Sg.cells) ∧ s.env 6 = .ip (l3C p.x.v p.y.v p.w.v) ∧ s.env 5 = .osl id 0 m ∧ s.env 7 = .int .i64 (i : Int) ∧ s.env 8 = .int .i64 (j : Int) ∧ s.env 61 = .bool (decide (j < m ∧ stO L p (A.getD j 0) i = true)) ∧ s.heap id = some (1, B) ∧ id < s.nx ∧ s.nt = 79) → K16 s := by
      rintro ⟨e0, H, mm, nt⟩ ⟨hid2, g0q, g6q, g5q, g7q, g8q, g61q, Hoq, xoq, rfl⟩
      simp only [] at g0q g6q g5q g7q g8q g61q Hoq xoq
      refine hK16 _ ?_
      refine .c (t := decide (j < m ∧ stO L p (A.getD j 0) i = true)) (fun h61 => ?_) (fun h61 => ?_) (by simp (disch := first|omega|(simp only[ln];omega)) [g61q])
      ·simp only [dc] at h61
       refine .skip ?_
       refine hK15 _ ?_
       refine .block ?_
       refine .r ?_ (by simp (disch := first|omega|(simp only[ln];omega)) [g0q, g6q, g5q, g7q, g8q, g61q, Hoq]; rfl)
       refine ⟨m - (j + 1), by omega, j + 1, rfl, by omega, fun q hq => by
         rcases Nat.lt_or_ge q j with h | h
         · exact hj q h
         · rw [show q = j by omega]; exact ⟨_, getD_at (x0 := 0) (by omega), h61.2⟩, hid2, ?_, ?_, ?_, ?_, ?_, ?_, ?_, rfl⟩ <;> first|(simp (disch := omega) [g0q, g6q, g5q, g7q, g8q, g61q, Hoq];done)|omega|(simp;done)|(simp;omega)
      ·simp only [dc] at h61
       have hins := insK_stop (x0 := 0) hj (by omega) (by rw [← hm]; exact h61)
       have hAs : insA (stO L p) A i = stI L p (i + 1) := by rw [stI_yes hyes, hA]
       have hfin : B.take j ++ wd .i64 [(i : Int)] ++ B.drop j = (stI L p (i + 1)).map nC := by show B.take j ++ [nC i] ++ B.drop j = _; rw [hB, ins_rows nC hins, hAs]
       have ht1 : List.take j (List.take j B) = List.take j B := by rw [List.take_take, Nat.min_self]
       have ht2 : ∀ x : Int, List.take (j + 1) (List.take j B ++ wd .i64 [x]) = List.take j B ++ wd .i64 [x] := fun x => List.take_of_length_le (by rw [List.length_append, List.length_take]; show min j B.length + 1 ≤ j + 1; omega)
       have hfin2 := hfin
       rw [List.append_assoc] at hfin2
       have hmk : (stI L p (i + 1)).length = m + 1 := by rw [← hAs, insA_len, hm]
       have hjm : j ≤ m := by omega
       have hb1 : (B.take j).length = j := by rw [List.length_take]; omega
       have hb2 : (B.drop j).length = m - j := by rw [List.length_drop]; omega
       have hjk : j + 1 + (m - j) = m + 1 := by omega
       have hb3 : List.take (m - j) (B.drop j) = B.drop j := List.take_of_length_le (by omega)
       have hpl : ∀ c ∈ B, c.length = 1 ∧ ∀ x ∈ c, avOne x = true := by
         intro c hc
         rw [hB] at hc
         obtain ⟨p, _, rfl⟩ := List.mem_map.1 hc
         exact ⟨rfl, by simp [nC, avOne]⟩
       have hpt : ∀ c ∈ List.take j B, c.length = 1 ∧ ∀ x ∈ c, avOne x = true := fun c hc => hpl c (List.mem_of_mem_take hc)
       have hpd : ∀ c ∈ List.drop j B, c.length = 1 ∧ ∀ x ∈ c, avOne x = true := fun c hc => hpl c (List.mem_of_mem_drop hc)
       refine .exit ?_
       refine hK14 _ ?_
       refine .sq fun K17 hK17 => ?_
       refine .region ?_
       refine .k 4 ?_ (by simp (disch := first|omega|(simp only[ln];omega)) [List.take_succ_cons, List.take_zero, if_pos, g0q, g6q, g5q, g7q, g8q, g61q, Hoq, hBl, hjm]; rfl)
       refine AOPS.opapp (by simp (disch := first|omega|(simp only[ln];omega)) [opApp.eq_def, aSrc_isl, aSrc_osl, aSrc_nsl, aSrc_int, wd_app, wd_app2, if_pos, wd_append, wd_take, wd_drop, List.nil_append, hBl, hb1, hjm, hpt, g0q, g6q, g5q, g7q, g8q, g61q, Hoq, src_Wd' (P := Tryz.prog) elT32]; first | rfl | exact ⟨rfl, rfl⟩ | exact ⟨rfl, rfl, rfl⟩) (by simp) (by simp) ?_
       simp only [puts_some, hdrop]
       refine .e ?_ (by simp (disch := first|omega|(simp only[ln];omega)) [if_pos, g0q, g6q, g5q, g7q, g8q, g61q, Hoq, hBl, hjm]; rfl)
       refine hK17 _ ?_
       refine .sq fun K18 hK18 => ?_
       refine .region ?_
       refine .k 3 ?_ (by simp (disch := first|omega|(simp only[ln];omega)) [List.take_succ_cons, List.take_zero, g0q, g6q, g5q, g7q, g8q, g61q, Hoq]; rfl)
       refine AOPS.opapp (by simp (disch := first|omega|(simp only[ln];omega)) [opApp.eq_def, aSrc_isl, aSrc_osl, aSrc_nsl, aSrc_int, wd_app, wd_app2, if_pos, wd_append, wd_take, wd_drop, List.nil_append, hBl, hb1, hjm, src_Wd' (P := Tryz.prog) elT32]; first | rfl | exact ⟨rfl, rfl⟩ | exact ⟨rfl, rfl, rfl⟩) (by simp) (by simp) ?_
       simp only [puts_some, hdrop]
       refine .e ?_ (by simp (disch := first|omega|(simp only[ln];omega)) [g0q, g6q, g5q, g7q, g8q, g61q, Hoq]; rfl)
       refine hK18 _ ?_
       refine .region ?_
       refine .k 4 ?_ (by simp (disch := first|omega|(simp only[ln];omega)) [List.take_succ_cons, List.take_zero, if_pos, g0q, g6q, g5q, g7q, g8q, g61q, Hoq, hBl, hjm]; rfl)
       refine AOPS.opapp (by simp (disch := first|omega|(simp only[ln];omega)) [opApp.eq_def, aSrc_isl, aSrc_osl, aSrc_nsl, aSrc_int, wd_app, wd_app2, if_pos, wd_append, wd_take, wd_drop, List.nil_append, hBl, hb1, hb2, hb3, hjm, hjk, hpd, g0q, g6q, g5q, g7q, g8q, g61q, Hoq, src_Wd' (P := Tryz.prog) elT32]; first | rfl | exact ⟨rfl, rfl⟩ | exact ⟨rfl, rfl, rfl⟩) (by simp) (by simp) ?_
       simp only [puts_some, hdrop]
       refine .e ?_ (by simp (disch := first|omega|(simp only[ln];omega)) [if_pos, g0q, g6q, g5q, g7q, g8q, g61q, Hoq, hBl, hjm]; rfl)
       refine hK10 _ ?_
       refine .r ?_ (by simp (disch := first|omega|(simp only[ln];omega)) [g7q]; rfl)
       refine ⟨L.length - (i + 1), by omega, i + 1, stI L p (i + 1), (mm + 1 + 1 + 1 + 1), rfl, by omega, rfl, by first|omega|(simp;omega), ?_, ?_, ?_, ?_, ?_, ?_, rfl⟩ <;> first|(simp (disch := omega) [g0q, g6q, g5q, g7q, g8q, g61q, Hoq, ht1, ht2, hfin, hfin2, hmk, hjk];done)|omega|(simp;done)|(simp;omega)
     by_cases hjm : j < m
     ·have hjA : j < A.length := by omega
      have hge := getD_at (l := A) (x0 := 0) hjA
      have hmem : A.getD j 0 ∈ stI L p i := by rw [← hA]; exact List.mem_of_getElem? hge
      obtain ⟨hx1, hx2⟩ := stI_mem.1 hmem
      generalize A.getD j 0 = x at *
      have hat3 : B[j]? = some (nC x) := by rw [hB, List.getElem?_map, hge]; rfl
      have hatE : ∀ h : j < B.length, B[j] = nC x := fun h => by rw [List.getElem?_eq_getElem h] at hat3; simpa using hat3
      simp only [nC] at hat3 hatE
      have cb := l7Below_fc L p hp gw z1 z2 x i (by omega) hi' (stB_D hx2) dT
      rw [← stO_good (stB_D hx2) dT] at cb
      refine .d 14 ?_
      refine .k 12 (fun fs19 hfs19 => ?_) (by simp (disch := first|omega|(simp only[ln];omega)) [runDf.eq_def, runF1, runF2, stepF.eq_def, updo.eq_def, hupo.eq_def, opSto1.eq_def, List.take_succ_cons, List.take_zero, idx_WdD (P := Tryz.prog) elT32 szT2, if_pos, len_Wd (P := Tryz.prog) #[32] rfl elT32, g0j, g6j, g5j, g7j, g8j, Hoj, hBl, hjm, hat3, hatE]; rfl)
      refine .f cb hb94 ?_ (ha := by simp (disch := first|omega|(simp only[ln];omega)) [idf_Wd', idx_WdD (P := Tryz.prog) elT32 szT2, if_pos, len_Wd (P := Tryz.prog) #[32] rfl elT32, g0j, g6j, g5j, g7j, g8j, Hoj, hBl, hjm, hat3, hatE])
      refine .k 1 (fun fs20 hfs20 => ?_) (by simp (disch := first|omega|(simp only[ln];omega)) [runDf.eq_def, runF1, runF2, stepF.eq_def, updo.eq_def, hupo.eq_def, opSto1.eq_def, List.take_succ_cons, List.take_zero, idx_WdD (P := Tryz.prog) elT32 szT2, if_pos, len_Wd (P := Tryz.prog) #[32] rfl elT32, g0j, g6j, g5j, g7j, g8j, Hoj, hBl, hjm, hat3, hatE]; rfl)
      refine .r 14 (by simp only[ln, hfs19, hfs20];omega) ?_ (by simp (disch := first|omega|(simp only[ln];omega)) [runDf.eq_def, runF1, runF2, stepF.eq_def, updo.eq_def, hupo.eq_def, opSto1.eq_def, idx_WdD (P := Tryz.prog) elT32 szT2, if_pos, len_Wd (P := Tryz.prog) #[32] rfl elT32, g0j, g6j, g5j, g7j, g8j, Hoj, hBl, hjm, hat3, hatE]; rfl)
      refine J16 _ ?_
      refine ⟨hid2, ?_, ?_, ?_, ?_, ?_, ?_, ?_, ?_, rfl⟩ <;> first|(simp (disch := omega) [g0j, g6j, g5j, g7j, g8j, Hoj, hjm, hBl];done)|omega|(simp;done)|(simp;omega)|(simp (disch := omega) [g0j, g6j, g5j, g7j, g8j, Hoj, hjm, hBl] <;> omega)
     ·refine .df 14 ?_ (by simp (disch := first|omega|(simp only[ln];omega)) [runDf.eq_def, runF1, runF2, stepF.eq_def, updo.eq_def, hupo.eq_def, opSto1.eq_def, idx_WdD (P := Tryz.prog) elT32 szT2, if_pos, len_Wd (P := Tryz.prog) #[32] rfl elT32, g0j, g6j, g5j, g7j, g8j, Hoj, hBl, hjm]; rfl)
      refine J16 _ ?_
      refine ⟨hid2, ?_, ?_, ?_, ?_, ?_, ?_, ?_, ?_, rfl⟩ <;> first|(simp (disch := omega) [g0j, g6j, g5j, g7j, g8j, Hoj, hjm, hBl];done)|omega|(simp;done)|(simp;omega)|(simp (disch := omega) [g0j, g6j, g5j, g7j, g8j, Hoj, hjm, hBl] <;> omega)
   by_cases q1 : 0 ≤ ovX s0.a p
   ·have d1 : decide (ovX s0.a p < 0) = false := decide_eq_false (by omega)
    rw [decide_eq_true q1, Bool.true_and] at hbw
    have hb2 : decide (0 ≤ ovX s0.b p) = !stB s0 p := by rw [hbw]; by_cases h : ovX s0.b p < 0 <;> simp [h] <;> omega
    refine .d 20 ?_
    refine .k 5 (fun fs21 hfs21 => ?_) (by simp (disch := first|omega|(simp only[ln];omega)) [runDf.eq_def, runF1, runF2, stepF.eq_def, updo.eq_def, hupo.eq_def, opSto1.eq_def, List.take_succ_cons, List.take_zero, if_pos, g0, g6, g5, g7, Ho, d1, hat2, hae2, hi', List.length_map]; rfl)
    refine .f sA hb93 ?_ (ha := by simp (disch := first|omega|(simp only[ln];omega)) [idf_Wd', if_pos, g0, g6, g5, g7, Ho, d1, hat2, hae2, hi', List.length_map])
    refine .k 1 (fun fs22 hfs22 => ?_) (by simp (disch := first|omega|(simp only[ln];omega)) [runDf.eq_def, runF1, runF2, stepF.eq_def, updo.eq_def, hupo.eq_def, opSto1.eq_def, List.take_succ_cons, List.take_zero, if_pos, g0, g6, g5, g7, Ho, d1, hat2, hae2, hi', List.length_map]; rfl)
    refine .f cA hb92 ?_ (ha := by simp (disch := first|omega|(simp only[ln];omega)) [idf_Wd', if_pos, g0, g6, g5, g7, Ho, d1, hat2, hae2, hi', List.length_map])
    refine .k 8 (fun fs23 hfs23 => ?_) (by simp (disch := first|omega|(simp only[ln];omega)) [runDf.eq_def, runF1, runF2, stepF.eq_def, updo.eq_def, hupo.eq_def, opSto1.eq_def, List.take_succ_cons, List.take_zero, if_pos, g0, g6, g5, g7, Ho, d1, hat2, hae2, hi', List.length_map]; rfl)
    refine .f sB hb93 ?_ (ha := by simp (disch := first|omega|(simp only[ln];omega)) [idf_Wd', if_pos, g0, g6, g5, g7, Ho, d1, hat2, hae2, hi', List.length_map])
    refine .f cB hb92 ?_ (ha := by simp (disch := first|omega|(simp only[ln];omega)) [idf_Wd', if_pos, g0, g6, g5, g7, Ho, d1, hat2, hae2, hi', List.length_map])
    refine .k 2 (fun fs24 hfs24 => ?_) (by simp (disch := first|omega|(simp only[ln];omega)) [runDf.eq_def, runF1, runF2, stepF.eq_def, updo.eq_def, hupo.eq_def, opSto1.eq_def, List.take_succ_cons, List.take_zero, if_pos, g0, g6, g5, g7, Ho, d1, hat2, hae2, hi', List.length_map]; rfl)
    refine .r 20 (by simp only[ln, hfs21, hfs22, hfs23, hfs24];omega) ?_ (by simp (disch := first|omega|(simp only[ln];omega)) [runDf.eq_def, runF1, runF2, stepF.eq_def, updo.eq_def, hupo.eq_def, opSto1.eq_def, if_pos, g0, g6, g5, g7, Ho, d1, hat2, hae2, hi', List.length_map]; rfl)
    refine J12 _ ?_
    refine ⟨hid0, ?_, ?_, ?_, ?_, ?_, ?_, ?_, rfl⟩ <;> first|(simp (disch := omega) [g0, g6, g5, g7, Ho, d1, hb2];done)|omega|(simp;done)|(simp;omega)
   ·have d1 : decide (ovX s0.a p < 0) = true := decide_eq_true (by omega)
    rw [decide_eq_false q1, Bool.false_and] at hbw
    refine .d 20 ?_
    refine .k 5 (fun fs25 hfs25 => ?_) (by simp (disch := first|omega|(simp only[ln];omega)) [runDf.eq_def, runF1, runF2, stepF.eq_def, updo.eq_def, hupo.eq_def, opSto1.eq_def, List.take_succ_cons, List.take_zero, if_pos, g0, g6, g5, g7, Ho, d1, hat2, hae2, hi', List.length_map]; rfl)
    refine .f sA hb93 ?_ (ha := by simp (disch := first|omega|(simp only[ln];omega)) [idf_Wd', if_pos, g0, g6, g5, g7, Ho, d1, hat2, hae2, hi', List.length_map])
    refine .k 1 (fun fs26 hfs26 => ?_) (by simp (disch := first|omega|(simp only[ln];omega)) [runDf.eq_def, runF1, runF2, stepF.eq_def, updo.eq_def, hupo.eq_def, opSto1.eq_def, List.take_succ_cons, List.take_zero, if_pos, g0, g6, g5, g7, Ho, d1, hat2, hae2, hi', List.length_map]; rfl)
    refine .f cA hb92 ?_ (ha := by simp (disch := first|omega|(simp only[ln];omega)) [idf_Wd', if_pos, g0, g6, g5, g7, Ho, d1, hat2, hae2, hi', List.length_map])
    refine .k 12 (fun fs27 hfs27 => ?_) (by simp (disch := first|omega|(simp only[ln];omega)) [runDf.eq_def, runF1, runF2, stepF.eq_def, updo.eq_def, hupo.eq_def, opSto1.eq_def, List.take_succ_cons, List.take_zero, if_pos, g0, g6, g5, g7, Ho, d1, hat2, hae2, hi', List.length_map]; rfl)
    refine .r 20 (by simp only[ln, hfs25, hfs26, hfs27];omega) ?_ (by simp (disch := first|omega|(simp only[ln];omega)) [runDf.eq_def, runF1, runF2, stepF.eq_def, updo.eq_def, hupo.eq_def, opSto1.eq_def, if_pos, g0, g6, g5, g7, Ho, d1, hat2, hae2, hi', List.length_map]; rfl)
    refine J12 _ ?_
    refine ⟨hid0, ?_, ?_, ?_, ?_, ?_, ?_, ?_, rfl⟩ <;> first|(simp (disch := omega) [g0, g6, g5, g7, Ho, d1, hbw];done)|omega|(simp;done)|(simp;omega)
  ·try simp only[dc]at h25
   have hin : i = L.length := by omega
   subst hin
   have hCs : A.length = (stZ L p).length := by rw [hA]; simp [stZ]
   rw [hCs] at g5
   rw [hA, stZ_nC] at Ho
   refine .exit ?_
   refine hK6 _ ?_
   refine .q ?_ (by simp (disch := first|omega|(simp only[ln];omega)) [g5]; rfl)
   refine .ret ?_
   exact hK _ _ _ _ _ trivial (Fin.own1 (Fin.mk (by simp (disch := omega) [aRes, aResL, aRes1]; try rfl)) (id := id) (by simp [Ho])) (⟨id, by first | omega | (simp; done) | (simp; omega), by first | omega | (simp; done) | (simp; omega), rfl, rfl⟩)
end

end Go.Proofs.YtaibemhdfhchfaaGreat

/- Walks: drawn segments in a row. -/
namespace Go.Proofs.YtaibemhdfhchfaaGreat
open Go Go.RowKit
set_option linter.unusedSimpArgs false
set_option linter.unusedVariables false
set_option maxRecDepth 100000
attribute [local simp] szT2 byT2 agT2 unT2 zoT2 szT3 byT3 agT3 unT3 zoT3 szT24 byT24 agT24 elT24 unT24 zoT24 szT38 byT38 agT38 flT38 fdT38_0 fdT38_1 zoT38 szT40 byT40 agT40 flT40 fdT40_0 fdT40_1 zoT40

theorem hrestr_orS {H G : Heap} {nx i2 : Nat} {x : Option (Nat × List (List AV))} (h : hrestr (fun i => decide (i < nx)) H = G) (h2 : H i2 = x) (hn : nx ≤ i2) : hrestr (fun i => decide (i < nx) || decide (i = i2)) H = hupd G i2 x := by
  funext i
  have hi := congrFun h i
  simp only [hrestr, hupd] at *
  by_cases e : i = i2
  · subst e; simp [h2]
  · simpa [e] using hi
def pM (i : Nat) : Int := 10 * 4 ^ i
theorem pM_succ (i : Nat) : pM (i + 1) = 4 * pM i := by unfold pM; rw [Int.pow_succ]; omega
theorem pM_b {i : Nat} (h : i ≤ 6) : 10 ≤ pM i ∧ pM i ≤ 40960 := by
  rcases (by omega : i = 0 ∨ i = 1 ∨ i = 2 ∨ i = 3 ∨ i = 4 ∨ i = 5 ∨ i = 6) with h | h | h | h | h | h | h <;> subst h <;> decide
def bP (M : Int) (p : Sp) : Prop := -M ≤ p.x ∧ p.x ≤ M ∧ -M ≤ p.y ∧ p.y ≤ M
theorem bP_mono {M N : Int} {p : Sp} (h : bP M p) (hm : M ≤ N) : bP N p := by unfold bP at *; omega
theorem bP_seg {M : Int} {a b : Sp} (h0 : 0 ≤ M) (ha : bP M a) (hb : bP M b) : bP M (segS a b).1.a ∧ bP M (segS a b).1.b := by
  unfold segS; split
  · unfold segO; split
    · exact ⟨hb, ha⟩
    · exact ⟨ha, hb⟩
  · unfold sgZ bP; simp; omega
theorem bP_ok {M : Int} {p : Sp} (h : bP M p) (hm : M ≤ 163840) : Sp.ok p := by unfold bP at h; unfold Sp.ok I64; omega
theorem sok_set {S : List Sg} (h : ∀ p ∈ S, Sg.ok p) {i : Nat} {p : Sg} (hp : Sg.ok p) : ∀ q ∈ S.set i p, Sg.ok q := fun q hq => by
  rcases List.mem_or_eq_of_mem_set hq with h1 | rfl
  · exact h _ h1
  · exact hp

section
attribute [local simp] idf_numS cells_numS numS_fold idf_numI cells_numI numI_fold
set_option maxHeartbeats 1000000 in
theorem below1_ac (id : Nat) (H : Heap) (nx : Nat) : ACall Tryz.prog 100 [.ptr id 0 0, .int .i64 1] H nx (fun r H' nx' => r = .int .i64 0 ∧ H' = H ∧ nx ≤ nx') := by
 refine .b Tryz.func100 24 fun K hK => ?_
 refine .q ?_
 refine .sq fun K2 hK2 => ?_
 refine .q ?_
 refine .c (t := true) (fun h7 => ?_) (fun h7 => ?_)
 ·try simp only[dc]at h7
  refine .q ?_
  refine .ret ?_
  exact hK _ _ _ _ _ trivial (Fin.mk (r := .int .i64 0) (by simp [aRes, aResL, aRes1])) (⟨rfl, rfl, by simp⟩)
 ·simp at h7
end
section
attribute [local simp] idf_numS cells_numS numS_fold idf_numI cells_numI numI_fold Sp.av Sp.cells Sg.av Sg.cells
set_option maxHeartbeats 8000000 in
theorem segs_ac (l : List Int) (p id : Nat) (H0 : Heap) (nx : Nat) (dl : Dig 256 l) (hl : l.length ≤ 1048576) (hp : p ≤ l.length) (hH : H0 id = some (2, [[Wd .u8 l, .int .i64 (p : Int)]])) (hd : ∀ i q, H0 i = some q → i < nx) : ACall Tryz.prog 73 [.ptr id 0 0, .int .i64 6] H0 nx (fun r H' nx' => ∃ (S : List Sg) (i2 q : Nat), r = .osl i2 0 S.length ∧ (∀ s ∈ S, Sg.ok s) ∧ S.length ≤ 6 ∧ q ≤ l.length ∧ H' = hupd (hupd H0 id (some (2, [[Wd .u8 l, .int .i64 (q : Int)]]))) i2 (some (4, S.map Sg.cells)) ∧ nx ≤ i2 ∧ i2 < nx') := by
 have hid := hd id _ hH
 refine .b Tryz.func73 114 fun K hK => ?_
 refine .q ?_
 refine .q ?_
 refine .sq fun K3 hK3 => ?_
 refine .region ?_
 refine .k 3 ?_ (by simp (disch := first|omega|(simp only[ln];omega)) [List.take_succ_cons, List.take_zero, hH]; rfl)
 refine AOPS.old fun hold3 => ?_
 refine .a (below_ac 7 (by omega) (by omega) l p id _ _ dl hl hp (by simp (disch := omega) [hH]) hold3) hb100 ?_ (ha := by simp (disch := first|omega|(simp only[ln];omega)) [idf_Wd', hH])
 rintro _ _ nx2 ⟨⟨k7, rfl, k70, k71⟩, ⟨p2, hp2, rfl⟩, hnx2⟩
 try simp only [] at hnx2
 clear hold3
 obtain ⟨n, rfl⟩ := Int.eq_ofNat_of_zero_le k70
 have hn6 : n ≤ 6 := by omega
 refine .e ?_ (by simp (disch := first|omega|(simp only[ln];omega)) [hH]; rfl)
 refine hK3 _ ?_
 refine .sq fun K4 hK4 => ?_
 refine .q ?_
 refine .block ?_
 
 refine .loop (fun N s => ∃ i : Nat, ∃ q : Nat, ∃ i2 : Nat, ∃ S : List Sg, N = n - i ∧ i ≤ n ∧ (q ≤ l.length) ∧ (S.length = i) ∧ (∀ s ∈ S, bP (pM i) s.a ∧ bP (pM i) s.b) ∧ (nx ≤ i2) ∧ (hrestr (fun i => decide (i < nx)) s.heap = hupd H0 id (some (2, [[Wd .u8 l, .int .i64 (q : Int)]]))) ∧ s.env 0 = .ptr id 0 0 ∧ s.env 5 = .osl i2 0 i ∧ s.env 6 = .int .i64 (n : Int) ∧ s.env 7 = .int .i64 (i : Int) ∧ s.heap id = some (2, [[Wd .u8 l, .int .i64 (q : Int)]]) ∧ id < s.nx ∧ s.heap i2 = some (4, S.map Sg.cells) ∧ i2 < s.nx ∧ s.nt = 114) (n) (by refine ⟨0, p2, nx, [], by omega, by omega, hp2, rfl, fun s h => by simp at h, Nat.le_refl _, by simp (disch := first | omega | (simp; done) | (simp; omega)) [hrestr_in, hrestr_out, hrestr_all hd, hupd_same], ?_, ?_, ?_, ?_, ?_, ?_, ?_, ?_, rfl⟩ <;> first|(simp (disch := omega) [hH];done)|omega|(simp;done)|(simp;omega)) ?_
 rintro N ⟨e, H, mm, nt⟩ ⟨i, q, i2, S, rfl, hi, hq, hSl, hSo, hi2, hrs, g0, g5, g6, g7, Hr, xr, Ho, xo, rfl⟩
 simp only [] at g0 g5 g6 g7 Hr xr Ho xo
 simp only [] at hrs
 refine .sq fun K6 hK6 => ?_
 refine .q ?_ (by simp (disch := first|omega|(simp only[ln];omega)) [g6, g7]; rfl)
 refine .c (fun h19 => ?_) (fun h19 => ?_)
 ·try simp only[dc]at h19
  have hi' : i < n := by omega
  obtain ⟨hM1, hM2⟩ := pM_b (show i ≤ 6 by omega)
  obtain ⟨M, hM⟩ : ∃ M, M = pM i := ⟨_, rfl⟩
  rw [← hM] at hM1 hM2
  refine .skip ?_
  refine hK6 _ ?_
  refine .sq fun K8 hK8 => ?_
  refine .block ?_
  refine .sq fun K9 hK9 => ?_
  refine .region ?_
  refine .k 1 ?_ (by simp (disch := first|omega|(simp only[ln];omega)) [List.take_succ_cons, List.take_zero, g0]; rfl)
  refine AOPS.old fun hold1 => ?_
  refine .a (spot_ac l q id _ _ dl hl hq (by simp (disch := omega) [Hr]) hold1) hb155 ?_ (ha := by simp (disch := first|omega|(simp only[ln];omega)) [idf_Wd', g0])
  rintro _ _ nx2 ⟨⟨ax, ay, rfl, ax0, ax1, ay0, ay1⟩, ⟨q2, hq2, rfl⟩, hnx2⟩
  try simp only [] at hnx2
  clear hold1
  refine .e ?_ (by simp (disch := first|omega|(simp only[ln];omega)) [g0]; rfl)
  refine hK9 _ ?_
  refine .sq fun K10 hK10 => ?_
  refine .region ?_
  refine .k 1 ?_ (by simp (disch := first|omega|(simp only[ln];omega)) [List.take_succ_cons, List.take_zero, g0]; rfl)
  refine AOPS.old fun hold1 => ?_
  refine .a (spot_ac l q2 id _ _ dl hl hq2 (by simp (disch := omega) [Hr]) hold1) hb155 ?_ (ha := by simp (disch := first|omega|(simp only[ln];omega)) [idf_Wd', g0])
  rintro _ _ nx3 ⟨⟨dx, dy, rfl, dx0, dx1, dy0, dy1⟩, ⟨q3, hq3, rfl⟩, hnx3⟩
  try simp only [] at hnx3
  clear hold1
  refine .e ?_ (by simp (disch := first|omega|(simp only[ln];omega)) [g0]; rfl)
  refine hK10 _ ?_
  refine .sq fun K11 hK11 => ?_
  have J11 : ∀ s : St, (∃ q : Nat, ∃ ia : Nat, ∃ ib : Nat, ∃ a : Sp, ∃ b : Sp, (q ≤ l.length) ∧ (i2 < ia ∧ ia < ib) ∧ (bP (M) a) ∧ (bP (M) b) ∧ (hrestr (fun i => decide (i < nx)) s.heap = hupd H0 id (some (2, [[Wd .u8 l, .int .i64 (q : Int)]]))) ∧ s.env 0 = .ptr id 0 0 ∧ s.env 5 = .osl i2 0 i ∧ s.env 6 = .int .i64 (n : Int) ∧ s.env 7 = .int .i64 (i : Int) ∧ s.env 8 = .ptr ia 0 0 ∧ s.env 9 = .ptr ib 0 0 ∧ s.heap id = some (2, [[Wd .u8 l, .int .i64 (q : Int)]]) ∧ id < s.nx ∧ s.heap i2 = some (4, S.map Sg.cells) ∧ i2 < s.nx ∧ s.heap ia = some (2, [Sp.cells a]) ∧ ia < s.nx ∧ s.heap ib = some (2, [Sp.cells b]) ∧ ib < s.nx ∧ s.nt = 114) → K11 s := by
   rintro ⟨e, H, mm, nt⟩ ⟨q, ia, ib, a, b, hq, hab, ha, hb, hrs, g0v, g5v, g6v, g7v, g8v, g9v, Hrv, xrv, Hov, xov, Hav, xav, Hbv, xbv, rfl⟩
   simp only [] at g0v g5v g6v g7v g8v g9v Hrv xrv Hov xov Hav xav Hbv xbv
   simp only [] at hrs
   obtain ⟨hab1, hab2⟩ := hab
   have hab : i2 < ia ∧ ia < ib := ⟨hab1, hab2⟩
   refine hK11 _ ?_
   refine .sq fun K12 hK12 => ?_
   have J12 : ∀ s : St, (∃ q : Nat, ∃ ia : Nat, ∃ ib : Nat, ∃ a : Sp, ∃ b : Sp, (q ≤ l.length) ∧ (i2 < ia ∧ ia < ib) ∧ (bP (3 * M) a) ∧ (bP (3 * M) b) ∧ (hrestr (fun i => decide (i < nx)) s.heap = hupd H0 id (some (2, [[Wd .u8 l, .int .i64 (q : Int)]]))) ∧ s.env 0 = .ptr id 0 0 ∧ s.env 5 = .osl i2 0 i ∧ s.env 6 = .int .i64 (n : Int) ∧ s.env 7 = .int .i64 (i : Int) ∧ s.env 8 = .ptr ia 0 0 ∧ s.env 9 = .ptr ib 0 0 ∧ s.heap id = some (2, [[Wd .u8 l, .int .i64 (q : Int)]]) ∧ id < s.nx ∧ s.heap i2 = some (4, S.map Sg.cells) ∧ i2 < s.nx ∧ s.heap ia = some (2, [Sp.cells a]) ∧ ia < s.nx ∧ s.heap ib = some (2, [Sp.cells b]) ∧ ib < s.nx ∧ s.nt = 114) → K12 s := by
    rintro ⟨e, H, mm, nt⟩ ⟨q, ia, ib, a, b, hq, hab, ha, hb, hrs, g0y, g5y, g6y, g7y, g8y, g9y, Hry, xry, Hoy, xoy, Hay, xay, Hby, xby, rfl⟩
    simp only [] at g0y g5y g6y g7y g8y g9y Hry xry Hoy xoy Hay xay Hby xby
    simp only [] at hrs
    obtain ⟨hab1, hab2⟩ := hab
    have hab : i2 < ia ∧ ia < ib := ⟨hab1, hab2⟩
    refine hK12 _ ?_
    refine .sq fun K13 hK13 => ?_
    have J13 : ∀ s : St, (∃ q : Nat, ∃ ia : Nat, ∃ ib : Nat, ∃ a : Sp, ∃ b : Sp, (q ≤ l.length) ∧ (i2 < ia ∧ ia < ib) ∧ (bP (3 * M + 1) a) ∧ (bP (3 * M + 1) b) ∧ (hrestr (fun i => decide (i < nx)) s.heap = hupd H0 id (some (2, [[Wd .u8 l, .int .i64 (q : Int)]]))) ∧ s.env 0 = .ptr id 0 0 ∧ s.env 5 = .osl i2 0 i ∧ s.env 6 = .int .i64 (n : Int) ∧ s.env 7 = .int .i64 (i : Int) ∧ s.env 8 = .ptr ia 0 0 ∧ s.env 9 = .ptr ib 0 0 ∧ s.heap id = some (2, [[Wd .u8 l, .int .i64 (q : Int)]]) ∧ id < s.nx ∧ s.heap i2 = some (4, S.map Sg.cells) ∧ i2 < s.nx ∧ s.heap ia = some (2, [Sp.cells a]) ∧ ia < s.nx ∧ s.heap ib = some (2, [Sp.cells b]) ∧ ib < s.nx ∧ s.nt = 114) → K13 s := by
     rintro ⟨e, H, mm, nt⟩ ⟨q, ia, ib, a, b, hq, hab, ha, hb, hrs, g0z, g5z, g6z, g7z, g8z, g9z, Hrz, xrz, Hoz, xoz, Haz, xaz, Hbz, xbz, rfl⟩
     simp only [] at g0z g5z g6z g7z g8z g9z Hrz xrz Hoz xoz Haz xaz Hbz xbz
     simp only [] at hrs
     obtain ⟨hab1, hab2⟩ := hab
     have hab : i2 < ia ∧ ia < ib := ⟨hab1, hab2⟩
     refine hK13 _ ?_
     refine .sq fun K14 hK14 => ?_
     have sgc := segOfS_fc a b
     obtain ⟨G, hG⟩ : ∃ G, G = segS a b := ⟨_, rfl⟩
     have hGb := bP_seg (M := 4 * M) (by omega) (bP_mono ha (by omega)) (bP_mono hb (by omega))
     rw [← hG] at sgc hGb
     have hSn : ∀ s ∈ S ++ [G.1], bP (pM (i + 1)) s.a ∧ bP (pM (i + 1)) s.b := by
       intro s hs
       rw [pM_succ, ← hM]
       rcases List.mem_append.1 hs with h | h
       · have := hSo s h; rw [← hM] at this; exact ⟨bP_mono this.1 (by omega), bP_mono this.2 (by omega)⟩
       · rw [List.mem_singleton.1 h]; exact hGb
     have htk : List.take i (S.map Sg.cells) = S.map Sg.cells := List.take_of_length_le (by rw [List.length_map]; omega)
     have hc1 : (i + 1) * 32 ≤ 140737488355328 := by omega
     have hc2 : i ≤ 9223372036854775806 := by omega
     refine .region ?_
     refine .kf 2 sgc hb156 ?_ (by simp (disch := first|omega|(simp only[ln];omega)) [List.take_succ_cons, List.take_zero, g0z, g5z, g6z, g7z, g8z, g9z, Hrz, Hoz, Haz, Hbz, Sp.cells]; rfl) (ha := by simp (disch := first|omega|(simp only[ln];omega)) [idf_Wd', g0z, g5z, g6z, g7z, g8z, g9z, Hrz, Hoz, Haz, Hbz, Sp.cells])
     refine .e ?_ (by simp (disch := first|omega|(simp only[ln];omega)) [g0z, g5z, g6z, g7z, g8z, g9z, Hrz, Hoz, Haz, Hbz, Sp.cells]; rfl)
     refine hK14 _ ?_
     refine .region ?_
     refine .k 3 ?_ (by simp (disch := first|omega|(simp only[ln];omega)) [List.take_succ_cons, List.take_zero, g0z, g5z, g6z, g7z, g8z, g9z, Hrz, Hoz, Haz, Hbz]; rfl)
     refine AOPS.opapp (by simp (disch := first|omega|(simp only[ln];omega)) [opApp.eq_def, aSrc_isl, aSrc_osl, aSrc_nsl, aSrc_int, wd_app, wd_app2, if_pos, wd_append, wd_take, wd_drop, List.nil_append, hSl, htk, hc1, hc2, List.length_map, g0z, g5z, g6z, g7z, g8z, g9z, Hrz, Hoz, Haz, Hbz, src_Wd' (P := Tryz.prog) elT24]; first | rfl | exact ⟨rfl, rfl⟩ | exact ⟨rfl, rfl, rfl⟩) (by simp) (by simp) ?_
     simp only [puts_some, hdrop]
     refine .e ?_ (by simp (disch := first|omega|(simp only[ln];omega)) [g0z, g5z, g6z, g7z, g8z, g9z, Hrz, Hoz, Haz, Hbz]; rfl)
     refine hK8 _ ?_
     refine .r ?_ (by simp (disch := first|omega|(simp only[ln];omega)) [g7z]; rfl)
     refine ⟨n - (i + 1), by omega, i + 1, q, (mm + 1 + 1), (S ++ [G.1]), rfl, by omega, hq, by simp [hSl], hSn, by omega, by simp (disch := first | omega | (simp; done) | (simp; omega)) [hrestr_in, hrestr_out, hrs, hupd_same], ?_, ?_, ?_, ?_, ?_, ?_, ?_, ?_, rfl⟩ <;> first|(simp (disch := omega) [g0z, g5z, g6z, g7z, g8z, g9z, Hrz, Hoz, Haz, Hbz, Sg.cells, List.map_append, htk];done)|omega|(simp;done)|(simp;omega)
    refine .q ?_ (by simp (disch := first|omega|(simp only[ln];omega)) [g0y, g5y, g6y, g7y, g8y, g9y, Hry, Hoy, Hay, Hby, eqW2, Sp.cells]; rfl)
    refine .c (t := decide (a = b)) (fun h85 => ?_) (fun h85 => ?_)
    ·try simp only[dc]at h85
     obtain ⟨b1, b2, b3, b4⟩ := hb
     refine .r ?_ (by simp (disch := first|omega|(simp only[ln];omega)) [g0y, g5y, g6y, g7y, g8y, g9y, Hry, Hoy, Hay, Hby, Sp.cells]; rfl)
     refine J13 _ ?_
     refine ⟨q, ia, ib, a, ⟨b.x, b.y + 1⟩, hq, by omega, bP_mono ha (by omega), by unfold bP; simp only []; omega, by simp (disch := first | omega | (simp; done) | (simp; omega)) [hrestr_in, hrestr_out, hrs, hupd_same], ?_, ?_, ?_, ?_, ?_, ?_, ?_, ?_, ?_, ?_, ?_, ?_, ?_, ?_, rfl⟩ <;> first|(simp (disch := omega) [g0y, g5y, g6y, g7y, g8y, g9y, Hry, Hoy, Hay, Hby, Sp.cells, Sg.cells];done)|omega|(simp;done)|(simp;omega)
    ·try simp only[dc]at h85
     refine .skip ?_
     refine J13 _ ?_
     refine ⟨q, ia, ib, a, b, hq, by omega, bP_mono ha (by omega), bP_mono hb (by omega), by simp (disch := first | omega | (simp; done) | (simp; omega)) [hrestr_in, hrestr_out, hrs, hupd_same], ?_, ?_, ?_, ?_, ?_, ?_, ?_, ?_, ?_, ?_, ?_, ?_, ?_, ?_, rfl⟩ <;> first|(simp (disch := omega) [g0y, g5y, g6y, g7y, g8y, g9y, Hry, Hoy, Hay, Hby, Sp.cells, Sg.cells];done)|omega|(simp;done)|(simp;omega)
   refine .sq fun K16 hK16 => ?_
   have J16 : ∀ s : St, (∃ q : Nat, ∃ ia : Nat, ∃ ib : Nat, ∃ a : Sp, ∃ b : Sp, ∃ c : Bool, (q ≤ l.length) ∧ (i2 < ia ∧ ia < ib) ∧ (bP (M) a) ∧ (bP (M) b) ∧ (hrestr (fun i => decide (i < nx)) s.heap = hupd H0 id (some (2, [[Wd .u8 l, .int .i64 (q : Int)]]))) ∧ (c = true → 0 < i) ∧ s.env 0 = .ptr id 0 0 ∧ s.env 5 = .osl i2 0 i ∧ s.env 6 = .int .i64 (n : Int) ∧ s.env 7 = .int .i64 (i : Int) ∧ s.env 8 = .ptr ia 0 0 ∧ s.env 9 = .ptr ib 0 0 ∧ s.env 43 = .bool c ∧ s.heap id = some (2, [[Wd .u8 l, .int .i64 (q : Int)]]) ∧ id < s.nx ∧ s.heap i2 = some (4, S.map Sg.cells) ∧ i2 < s.nx ∧ s.heap ia = some (2, [Sp.cells a]) ∧ ia < s.nx ∧ s.heap ib = some (2, [Sp.cells b]) ∧ ib < s.nx ∧ s.nt = 114) → K16 s := by
    rintro ⟨e, H, mm, nt⟩ ⟨q, ia, ib, a, b, c, hq, hab, ha, hb, hrs, hc, g0w, g5w, g6w, g7w, g8w, g9w, g43w, Hrw, xrw, How, xow, Haw, xaw, Hbw, xbw, rfl⟩
    simp only [] at g0w g5w g6w g7w g8w g9w g43w Hrw xrw How xow Haw xaw Hbw xbw
    simp only [] at hrs
    obtain ⟨hab1, hab2⟩ := hab
    have hab : i2 < ia ∧ ia < ib := ⟨hab1, hab2⟩
    refine hK16 _ ?_
    refine .c (t := c) (fun h43 => ?_) (fun h43 => ?_) (by simp (disch := first|omega|(simp only[ln];omega)) [g43w])
    ·try simp only[dc]at h43
     have hi0 := hc h43
     obtain ⟨j, hj⟩ : ∃ j, i = j + 1 := ⟨i - 1, by omega⟩
     have hji : (i : Int) - 1 = (j : Int) := by omega
     have hjS : j < S.length := by omega
     have hj2 : j < i := by omega
     obtain ⟨T, hT⟩ : ∃ T, T = gq S j := ⟨_, rfl⟩
     have hat : (S.map Sg.cells)[j]? = some (Sg.cells T) := by rw [List.getElem?_map, gq_get hjS, hT]; rfl
     have hae : ∀ h : j < (S.map Sg.cells).length, (S.map Sg.cells)[j] = Sg.cells T := fun h => by rw [List.getElem?_eq_getElem h] at hat; simpa using hat
     obtain ⟨tA, tB⟩ := hSo _ (gq_mem hjS)
     rw [← hM, ← hT] at tA tB
     obtain ⟨ta1, ta2, ta3, ta4⟩ := tA
     obtain ⟨tb1, tb2, tb3, tb4⟩ := tB
     refine .old fun hold => ?_
     refine .d 39 ?_
     refine .k 6 (fun fs17 hfs17 => ?_) (by simp (disch := first|omega|(simp only[ln];omega)) [runDf.eq_def, runF1, runF2, stepF.eq_def, updo.eq_def, hupo.eq_def, opSto1.eq_def, List.take_succ_cons, List.take_zero, if_pos, g0w, g5w, g6w, g7w, g8w, g9w, g43w, Hrw, How, Haw, Hbw, hji, hj2, hat, hae, hSl, List.length_map]; rfl)
     refine DP.runF1q (by simp (disch := first|omega|(simp only[ln];omega)) [runDf.eq_def, runF1, runF2, stepF.eq_def, updo.eq_def, hupo.eq_def, opSto1.eq_def, if_pos, g0w, g5w, g6w, g7w, g8w, g9w, g43w, Hrw, How, Haw, Hbw, hji, hj2, hat, hae, hSl, List.length_map]; rfl) fun fq18 hfq18 => ?_
     simp [qids, asksB, Op.operands, topId] at hfq18
     simp only [updo]
     refine DP.runF1q (by simp (disch := first|omega|(simp only[ln];omega)) [runDf.eq_def, runF1, runF2, stepF.eq_def, updo.eq_def, hupo.eq_def, opSto1.eq_def, if_pos, g0w, g5w, g6w, g7w, g8w, g9w, g43w, Hrw, How, Haw, Hbw, hji, hj2, hat, hae, hSl, List.length_map]; rfl) fun fq19 hfq19 => ?_
     simp [qids, asksB, Op.operands, topId] at hfq19
     simp only [updo]
     refine DP.runF1q (by simp (disch := first|omega|(simp only[ln];omega)) [runDf.eq_def, runF1, runF2, stepF.eq_def, updo.eq_def, hupo.eq_def, opSto1.eq_def, if_pos, g0w, g5w, g6w, g7w, g8w, g9w, g43w, Hrw, How, Haw, Hbw, hji, hj2, hat, hae, hSl, List.length_map]; rfl) fun fq20 hfq20 => ?_
     simp [qids, asksB, Op.operands, topId] at hfq20
     simp only [updo]
     refine DP.runF1q (by simp (disch := first|omega|(simp only[ln];omega)) [runDf.eq_def, runF1, runF2, stepF.eq_def, updo.eq_def, hupo.eq_def, opSto1.eq_def, if_pos, g0w, g5w, g6w, g7w, g8w, g9w, g43w, Hrw, How, Haw, Hbw, hji, hj2, hat, hae, hSl, List.length_map]; rfl) fun fq21 hfq21 => ?_
     simp [qids, asksB, Op.operands, topId] at hfq21
     simp only [updo]
     refine DP.runF1q (by simp (disch := first|omega|(simp only[ln];omega)) [runDf.eq_def, runF1, runF2, stepF.eq_def, updo.eq_def, hupo.eq_def, opSto1.eq_def, if_pos, g0w, g5w, g6w, g7w, g8w, g9w, g43w, Hrw, How, Haw, Hbw, hji, hj2, hat, hae, hSl, List.length_map]; rfl) fun fq22 hfq22 => ?_
     simp [qids, asksB, Op.operands, topId] at hfq22
     simp only [updo]
     refine DP.runF1q (by simp (disch := first|omega|(simp only[ln];omega)) [runDf.eq_def, runF1, runF2, stepF.eq_def, updo.eq_def, hupo.eq_def, opSto1.eq_def, if_pos, g0w, g5w, g6w, g7w, g8w, g9w, g43w, Hrw, How, Haw, Hbw, hji, hj2, hat, hae, hSl, List.length_map]; rfl) fun fq23 hfq23 => ?_
     simp [qids, asksB, Op.operands, topId] at hfq23
     simp only [updo]
     refine DP.runF1q (by simp (disch := first|omega|(simp only[ln];omega)) [runDf.eq_def, runF1, runF2, stepF.eq_def, updo.eq_def, hupo.eq_def, opSto1.eq_def, if_pos, g0w, g5w, g6w, g7w, g8w, g9w, g43w, Hrw, How, Haw, Hbw, hji, hj2, hat, hae, hSl, List.length_map]; rfl) fun fq24 hfq24 => ?_
     simp [qids, asksB, Op.operands, topId] at hfq24
     simp only [updo]
     refine DP.runF1q (by simp (disch := first|omega|(simp only[ln];omega)) [runDf.eq_def, runF1, runF2, stepF.eq_def, updo.eq_def, hupo.eq_def, opSto1.eq_def, if_pos, g0w, g5w, g6w, g7w, g8w, g9w, g43w, Hrw, How, Haw, Hbw, hji, hj2, hat, hae, hSl, List.length_map]; rfl) fun fq25 hfq25 => ?_
     simp [qids, asksB, Op.operands, topId] at hfq25
     simp only [updo]
     refine DP.runF1q (by simp (disch := first|omega|(simp only[ln];omega)) [runDf.eq_def, runF1, runF2, stepF.eq_def, updo.eq_def, hupo.eq_def, opSto1.eq_def, if_pos, g0w, g5w, g6w, g7w, g8w, g9w, g43w, Hrw, How, Haw, Hbw, hji, hj2, hat, hae, hSl, List.length_map]; rfl) fun fq26 hfq26 => ?_
     simp [qids, asksB, Op.operands, topId] at hfq26
     simp only [updo]
     refine DP.runF1q (by simp (disch := first|omega|(simp only[ln];omega)) [runDf.eq_def, runF1, runF2, stepF.eq_def, updo.eq_def, hupo.eq_def, opSto1.eq_def, if_pos, g0w, g5w, g6w, g7w, g8w, g9w, g43w, Hrw, How, Haw, Hbw, hji, hj2, hat, hae, hSl, List.length_map]; rfl) fun fq27 hfq27 => ?_
     simp [qids, asksB, Op.operands, topId] at hfq27
     simp only [updo]
     refine DP.runF1q (by simp (disch := first|omega|(simp only[ln];omega)) [runDf.eq_def, runF1, runF2, stepF.eq_def, updo.eq_def, hupo.eq_def, opSto1.eq_def, if_pos, g0w, g5w, g6w, g7w, g8w, g9w, g43w, Hrw, How, Haw, Hbw, hji, hj2, hat, hae, hSl, List.length_map]; rfl) fun fq28 hfq28 => ?_
     simp [qids, asksB, Op.operands, topId] at hfq28
     simp only [updo]
     refine DP.runF1q (by simp (disch := first|omega|(simp only[ln];omega)) [runDf.eq_def, runF1, runF2, stepF.eq_def, updo.eq_def, hupo.eq_def, opSto1.eq_def, if_pos, g0w, g5w, g6w, g7w, g8w, g9w, g43w, Hrw, How, Haw, Hbw, hji, hj2, hat, hae, hSl, List.length_map]; rfl) fun fq29 hfq29 => ?_
     simp [qids, asksB, Op.operands, topId] at hfq29
     simp only [updo]
     refine DP.runF1q (by simp (disch := first|omega|(simp only[ln];omega)) [runDf.eq_def, runF1, runF2, stepF.eq_def, updo.eq_def, hupo.eq_def, opSto1.eq_def, if_pos, g0w, g5w, g6w, g7w, g8w, g9w, g43w, Hrw, How, Haw, Hbw, hji, hj2, hat, hae, hSl, List.length_map]; rfl) fun fq30 hfq30 => ?_
     simp [qids, asksB, Op.operands, topId] at hfq30
     simp only [updo]
     refine DP.runF1q (by simp (disch := first|omega|(simp only[ln];omega)) [runDf.eq_def, runF1, runF2, stepF.eq_def, updo.eq_def, hupo.eq_def, opSto1.eq_def, if_pos, g0w, g5w, g6w, g7w, g8w, g9w, g43w, Hrw, How, Haw, Hbw, hji, hj2, hat, hae, hSl, List.length_map]; rfl) fun fq31 hfq31 => ?_
     simp [qids, asksB, Op.operands, topId] at hfq31
     simp only [updo]
     refine DP.runF1q (by simp (disch := first|omega|(simp only[ln];omega)) [runDf.eq_def, runF1, runF2, stepF.eq_def, updo.eq_def, hupo.eq_def, opSto1.eq_def, if_pos, g0w, g5w, g6w, g7w, g8w, g9w, g43w, Hrw, How, Haw, Hbw, hji, hj2, hat, hae, hSl, List.length_map]; rfl) fun fq32 hfq32 => ?_
     simp [qids, asksB, Op.operands, topId] at hfq32
     simp only [updo]
     refine DP.runF1q (by simp (disch := first|omega|(simp only[ln];omega)) [runDf.eq_def, runF1, runF2, stepF.eq_def, updo.eq_def, hupo.eq_def, opSto1.eq_def, if_pos, g0w, g5w, g6w, g7w, g8w, g9w, g43w, Hrw, How, Haw, Hbw, hji, hj2, hat, hae, hSl, List.length_map]; rfl) fun fq33 hfq33 => ?_
     simp [qids, asksB, Op.operands, topId] at hfq33
     simp only [updo]
     refine DP.runF1q (by simp (disch := first|omega|(simp only[ln];omega)) [runDf.eq_def, runF1, runF2, stepF.eq_def, updo.eq_def, hupo.eq_def, opSto1.eq_def, if_pos, g0w, g5w, g6w, g7w, g8w, g9w, g43w, Hrw, How, Haw, Hbw, hji, hj2, hat, hae, hSl, List.length_map]; rfl) fun fq34 hfq34 => ?_
     simp [qids, asksB, Op.operands, topId] at hfq34
     simp only [updo]
     refine DP.runF1q (by simp (disch := first|omega|(simp only[ln];omega)) [runDf.eq_def, runF1, runF2, stepF.eq_def, updo.eq_def, hupo.eq_def, opSto1.eq_def, if_pos, g0w, g5w, g6w, g7w, g8w, g9w, g43w, Hrw, How, Haw, Hbw, hji, hj2, hat, hae, hSl, List.length_map]; rfl) fun fq35 hfq35 => ?_
     simp [qids, asksB, Op.operands, topId] at hfq35
     simp only [updo]
     refine DP.runF1q (by simp (disch := first|omega|(simp only[ln];omega)) [runDf.eq_def, runF1, runF2, stepF.eq_def, updo.eq_def, hupo.eq_def, opSto1.eq_def, if_pos, g0w, g5w, g6w, g7w, g8w, g9w, g43w, Hrw, How, Haw, Hbw, hji, hj2, hat, hae, hSl, List.length_map]; rfl) fun fq36 hfq36 => ?_
     simp [qids, asksB, Op.operands, topId] at hfq36
     simp only [updo]
     refine DP.runF1q (by simp (disch := first|omega|(simp only[ln];omega)) [runDf.eq_def, runF1, runF2, stepF.eq_def, updo.eq_def, hupo.eq_def, opSto1.eq_def, if_pos, g0w, g5w, g6w, g7w, g8w, g9w, g43w, Hrw, How, Haw, Hbw, hji, hj2, hat, hae, hSl, List.length_map]; rfl) fun fq37 hfq37 => ?_
     simp [qids, asksB, Op.operands, topId] at hfq37
     simp only [updo]
     refine DP.runF1q (by simp (disch := first|omega|(simp only[ln];omega)) [runDf.eq_def, runF1, runF2, stepF.eq_def, updo.eq_def, hupo.eq_def, opSto1.eq_def, if_pos, g0w, g5w, g6w, g7w, g8w, g9w, g43w, Hrw, How, Haw, Hbw, hji, hj2, hat, hae, hSl, List.length_map]; rfl) fun fq38 hfq38 => ?_
     simp [qids, asksB, Op.operands, topId] at hfq38
     simp only [updo]
     refine DP.runF1q (by simp (disch := first|omega|(simp only[ln];omega)) [runDf.eq_def, runF1, runF2, stepF.eq_def, updo.eq_def, hupo.eq_def, opSto1.eq_def, if_pos, g0w, g5w, g6w, g7w, g8w, g9w, g43w, Hrw, How, Haw, Hbw, hji, hj2, hat, hae, hSl, List.length_map]; rfl) fun fq39 hfq39 => ?_
     simp [qids, asksB, Op.operands, topId] at hfq39
     simp only [updo]
     refine DP.runF1q (by simp (disch := first|omega|(simp only[ln];omega)) [runDf.eq_def, runF1, runF2, stepF.eq_def, updo.eq_def, hupo.eq_def, opSto1.eq_def, if_pos, g0w, g5w, g6w, g7w, g8w, g9w, g43w, Hrw, How, Haw, Hbw, hji, hj2, hat, hae, hSl, List.length_map]; rfl) fun fq40 hfq40 => ?_
     simp [qids, asksB, Op.operands, topId] at hfq40
     simp only [updo]
     refine DP.runF1q (by simp (disch := first|omega|(simp only[ln];omega)) [runDf.eq_def, runF1, runF2, stepF.eq_def, updo.eq_def, hupo.eq_def, opSto1.eq_def, if_pos, g0w, g5w, g6w, g7w, g8w, g9w, g43w, Hrw, How, Haw, Hbw, hji, hj2, hat, hae, hSl, List.length_map]; rfl) fun fq41 hfq41 => ?_
     simp [qids, asksB, Op.operands, topId] at hfq41
     simp only [updo]
     refine DP.runF1q (by simp (disch := first|omega|(simp only[ln];omega)) [runDf.eq_def, runF1, runF2, stepF.eq_def, updo.eq_def, hupo.eq_def, opSto1.eq_def, if_pos, g0w, g5w, g6w, g7w, g8w, g9w, g43w, Hrw, How, Haw, Hbw, hji, hj2, hat, hae, hSl, List.length_map]; rfl) fun fq42 hfq42 => ?_
     simp [qids, asksB, Op.operands, topId] at hfq42
     simp only [updo]
     refine DP.runF1q (by simp (disch := first|omega|(simp only[ln];omega)) [runDf.eq_def, runF1, runF2, stepF.eq_def, updo.eq_def, hupo.eq_def, opSto1.eq_def, if_pos, g0w, g5w, g6w, g7w, g8w, g9w, g43w, Hrw, How, Haw, Hbw, hji, hj2, hat, hae, hSl, List.length_map]; rfl) fun fq43 hfq43 => ?_
     simp [qids, asksB, Op.operands, topId] at hfq43
     simp only [updo]
     refine DP.runF1q (by simp (disch := first|omega|(simp only[ln];omega)) [runDf.eq_def, runF1, runF2, stepF.eq_def, updo.eq_def, hupo.eq_def, opSto1.eq_def, if_pos, g0w, g5w, g6w, g7w, g8w, g9w, g43w, Hrw, How, Haw, Hbw, hji, hj2, hat, hae, hSl, List.length_map]; rfl) fun fq44 hfq44 => ?_
     simp [qids, asksB, Op.operands, topId] at hfq44
     simp only [updo]
     refine DP.runF1q (by simp (disch := first|omega|(simp only[ln];omega)) [runDf.eq_def, runF1, runF2, stepF.eq_def, updo.eq_def, hupo.eq_def, opSto1.eq_def, if_pos, g0w, g5w, g6w, g7w, g8w, g9w, g43w, Hrw, How, Haw, Hbw, hji, hj2, hat, hae, hSl, List.length_map]; rfl) fun fq45 hfq45 => ?_
     simp [qids, asksB, Op.operands, topId] at hfq45
     simp only [updo]
     refine DP.runF1q (by simp (disch := first|omega|(simp only[ln];omega)) [runDf.eq_def, runF1, runF2, stepF.eq_def, updo.eq_def, hupo.eq_def, opSto1.eq_def, if_pos, g0w, g5w, g6w, g7w, g8w, g9w, g43w, Hrw, How, Haw, Hbw, hji, hj2, hat, hae, hSl, List.length_map]; rfl) fun fq46 hfq46 => ?_
     simp [qids, asksB, Op.operands, topId] at hfq46
     simp only [updo]
     refine DP.runF1q (by simp (disch := first|omega|(simp only[ln];omega)) [runDf.eq_def, runF1, runF2, stepF.eq_def, updo.eq_def, hupo.eq_def, opSto1.eq_def, if_pos, g0w, g5w, g6w, g7w, g8w, g9w, g43w, Hrw, How, Haw, Hbw, hji, hj2, hat, hae, hSl, List.length_map]; rfl) fun fq47 hfq47 => ?_
     simp [qids, asksB, Op.operands, topId] at hfq47
     simp only [updo]
     refine DP.runF1q (by simp (disch := first|omega|(simp only[ln];omega)) [runDf.eq_def, runF1, runF2, stepF.eq_def, updo.eq_def, hupo.eq_def, opSto1.eq_def, if_pos, g0w, g5w, g6w, g7w, g8w, g9w, g43w, Hrw, How, Haw, Hbw, hji, hj2, hat, hae, hSl, List.length_map]; rfl) fun fq48 hfq48 => ?_
     simp [qids, asksB, Op.operands, topId] at hfq48
     simp only [updo]
     refine DP.runF1q (by simp (disch := first|omega|(simp only[ln];omega)) [runDf.eq_def, runF1, runF2, stepF.eq_def, updo.eq_def, hupo.eq_def, opSto1.eq_def, if_pos, g0w, g5w, g6w, g7w, g8w, g9w, g43w, Hrw, How, Haw, Hbw, hji, hj2, hat, hae, hSl, List.length_map]; rfl) fun fq49 hfq49 => ?_
     simp [qids, asksB, Op.operands, topId] at hfq49
     simp only [updo]
     refine DP.runF1q (by simp (disch := first|omega|(simp only[ln];omega)) [runDf.eq_def, runF1, runF2, stepF.eq_def, updo.eq_def, hupo.eq_def, opSto1.eq_def, if_pos, g0w, g5w, g6w, g7w, g8w, g9w, g43w, Hrw, How, Haw, Hbw, hji, hj2, hat, hae, hSl, List.length_map]; rfl) fun fq50 hfq50 => ?_
     simp [qids, asksB, Op.operands, topId] at hfq50
     simp only [updo]
     refine DQ.sto1 (m := 39) [6, 7, 8, 9, 10, 11, 12, 13, 14, 15, 16, 17, 18, 19, 20, 21, 22, 23, 24, 25, 26, 27, 28, 29, 30, 31, 32, 33, 34, 35, 36, 37, 38] _ (by simp (disch := first|omega|(simp only[ln];omega)) [runDf.eq_def, runF1, runF2, stepF.eq_def, updo.eq_def, hupo.eq_def, opSto1.eq_def, if_pos, g0w, g5w, g6w, g7w, g8w, g9w, g43w, Hrw, How, Haw, Hbw, hji, hj2, hat, hae, hSl, List.length_map]; rfl) rfl (by simp only[ln, hfs17];omega) (by kernel_rfl) (by intro k f hk hex; simp only [List.mem_cons, List.not_mem_nil, or_false] at hex; rcases hex with rfl | rfl | rfl | rfl | rfl | rfl | rfl | rfl | rfl | rfl | rfl | rfl | rfl | rfl | rfl | rfl | rfl | rfl | rfl | rfl | rfl | rfl | rfl | rfl | rfl | rfl | rfl | rfl | rfl | rfl | rfl | rfl | rfl <;> (simp [List.getElem?_append, hfs17] at hk; subst hk; refine ⟨?_, by first | omega | (simp; done) | (simp; omega)⟩; simp [qids, asksB, Op.operands, Call.operands, topId, numS, numI, Wd, hfq18, hfq19, hfq20, hfq21, hfq22, hfq23, hfq24, hfq25, hfq26, hfq27, hfq28, hfq29, hfq30, hfq31, hfq32, hfq33, hfq34, hfq35, hfq36, hfq37, hfq38, hfq39, hfq40, hfq41, hfq42, hfq43, hfq44, hfq45, hfq46, hfq47, hfq48, hfq49, hfq50]; try omega)) ?_
     try simp only []
     refine DQ.sto1 (m := 39) [] _ (by simp (disch := first|omega|(simp only[ln];omega)) [runDf.eq_def, runF1, runF2, stepF.eq_def, updo.eq_def, hupo.eq_def, opSto1.eq_def, if_pos, g0w, g5w, g6w, g7w, g8w, g9w, g43w, Hrw, How, Haw, Hbw, hji, hj2, hat, hae, hSl, List.length_map]; rfl) rfl (by simp only[ln, hfs17];omega) (by kernel_rfl) (by intro k f hk hex; simp only [List.not_mem_nil] at hex) ?_
     try simp only []
     refine J12 _ ?_
     refine ⟨q, ia, ib, T.a, ⟨2 * T.b.x - T.a.x, 2 * T.b.y - T.a.y⟩, hq, by omega, by unfold bP; omega, by unfold bP; simp only []; omega, by simp (disch := first | omega | (simp; done) | (simp; omega)) [hrestr_in, hrestr_out, hrs, hupd_same], ?_, ?_, ?_, ?_, ?_, ?_, ?_, ?_, ?_, ?_, ?_, ?_, ?_, ?_, rfl⟩ <;> first|(simp (disch := omega) [g0w, g5w, g6w, g7w, g8w, g9w, g43w, Hrw, How, Haw, Hbw, hat, hae, Sp.cells, Sg.cells];done)|omega|(simp;done)|(simp;omega)
    ·try simp only[dc]at h43
     refine .skip ?_
     refine J12 _ ?_
     refine ⟨q, ia, ib, a, b, hq, by omega, bP_mono ha (by omega), bP_mono hb (by omega), by simp (disch := first | omega | (simp; done) | (simp; omega)) [hrestr_in, hrestr_out, hrs, hupd_same], ?_, ?_, ?_, ?_, ?_, ?_, ?_, ?_, ?_, ?_, ?_, ?_, ?_, ?_, rfl⟩ <;> first|(simp (disch := omega) [g0w, g5w, g6w, g7w, g8w, g9w, g43w, Hrw, How, Haw, Hbw, Sp.cells, Sg.cells];done)|omega|(simp;done)|(simp;omega)
   by_cases hi0 : 0 < i
   ·refine .region ?_
    refine .k 4 ?_ (by simp (disch := first|omega|(simp only[ln];omega)) [List.take_succ_cons, List.take_zero, hi0, g0v, g5v, g6v, g7v, g8v, g9v, Hrv, Hov, Hav, Hbv]; rfl)
    refine AOPS.old fun hold4 => ?_
    refine .a (once_ac 6 (by omega) (by omega) l q id _ _ dl hl hq (by simp (disch := omega) [Hrv]) hold4) hb98 ?_ (ha := by simp (disch := first|omega|(simp only[ln];omega)) [idf_Wd', hi0, g0v, g5v, g6v, g7v, g8v, g9v, Hrv, Hov, Hav, Hbv])
    rintro _ _ nx4 ⟨⟨b3, rfl⟩, ⟨q2, hq2, rfl⟩, hnx4⟩
    try simp only [] at hnx4
    clear hold4
    refine .e ?_ (by simp (disch := first|omega|(simp only[ln];omega)) [hi0, g0v, g5v, g6v, g7v, g8v, g9v, Hrv, Hov, Hav, Hbv]; rfl)
    refine J16 _ ?_
    refine ⟨q2, ia, ib, a, b, b3, hq2, by omega, ha, hb, by simp (disch := first | omega | (simp; done) | (simp; omega)) [hrestr_in, hrestr_out, hrs, hupd_same], fun _ => hi0, ?_, ?_, ?_, ?_, ?_, ?_, ?_, ?_, ?_, ?_, ?_, ?_, ?_, ?_, ?_, rfl⟩ <;> first|(simp (disch := omega) [g0v, g5v, g6v, g7v, g8v, g9v, Hrv, Hov, Hav, Hbv, hi0, Sp.cells, Sg.cells];done)|omega|(simp;done)|(simp;omega)
   ·refine .r ?_ (by simp (disch := first|omega|(simp only[ln];omega)) [hi0, g0v, g5v, g6v, g7v, g8v, g9v, Hrv, Hov, Hav, Hbv]; rfl)
    refine J16 _ ?_
    refine ⟨q, ia, ib, a, b, false, hq, by omega, ha, hb, by simp (disch := first | omega | (simp; done) | (simp; omega)) [hrestr_in, hrestr_out, hrs, hupd_same], fun h => by simp at h, ?_, ?_, ?_, ?_, ?_, ?_, ?_, ?_, ?_, ?_, ?_, ?_, ?_, ?_, ?_, rfl⟩ <;> first|(simp (disch := omega) [g0v, g5v, g6v, g7v, g8v, g9v, Hrv, Hov, Hav, Hbv, hi0, Sp.cells, Sg.cells];done)|omega|(simp;done)|(simp;omega)
  refine .sq fun K51 hK51 => ?_
  have J51 : ∀ s : St, (∃ q : Nat, ∃ ia : Nat, ∃ ib : Nat, ∃ a : Sp, ∃ b : Sp, ∃ c : Bool, (q ≤ l.length) ∧ (i2 < ia ∧ ia < ib) ∧ (bP (M) a) ∧ (bP (M) b) ∧ (hrestr (fun i => decide (i < nx)) s.heap = hupd H0 id (some (2, [[Wd .u8 l, .int .i64 (q : Int)]]))) ∧ (c = true → 0 < i) ∧ s.env 0 = .ptr id 0 0 ∧ s.env 5 = .osl i2 0 i ∧ s.env 6 = .int .i64 (n : Int) ∧ s.env 7 = .int .i64 (i : Int) ∧ s.env 8 = .ptr ia 0 0 ∧ s.env 9 = .ptr ib 0 0 ∧ s.env 31 = .bool c ∧ s.heap id = some (2, [[Wd .u8 l, .int .i64 (q : Int)]]) ∧ id < s.nx ∧ s.heap i2 = some (4, S.map Sg.cells) ∧ i2 < s.nx ∧ s.heap ia = some (2, [Sp.cells a]) ∧ ia < s.nx ∧ s.heap ib = some (2, [Sp.cells b]) ∧ ib < s.nx ∧ s.nt = 114) → K51 s := by
   rintro ⟨e, H, mm, nt⟩ ⟨q, ia, ib, a, b, c, hq, hab, ha, hb, hrs, hc, g0u, g5u, g6u, g7u, g8u, g9u, g31u, Hru, xru, Hou, xou, Hau, xau, Hbu, xbu, rfl⟩
   simp only [] at g0u g5u g6u g7u g8u g9u g31u Hru xru Hou xou Hau xau Hbu xbu
   simp only [] at hrs
   obtain ⟨hab1, hab2⟩ := hab
   have hab : i2 < ia ∧ ia < ib := ⟨hab1, hab2⟩
   refine hK51 _ ?_
   refine .c (t := c) (fun h31 => ?_) (fun h31 => ?_) (by simp (disch := first|omega|(simp only[ln];omega)) [g31u])
   ·try simp only[dc]at h31
    have hi0 := hc h31
    obtain ⟨j, hj⟩ : ∃ j, i = j + 1 := ⟨i - 1, by omega⟩
    have hji : (i : Int) - 1 = (j : Int) := by omega
    have hjS : j < S.length := by omega
    have hj2 : j < i := by omega
    obtain ⟨T, hT⟩ : ∃ T, T = gq S j := ⟨_, rfl⟩
    have hat : (S.map Sg.cells)[j]? = some (Sg.cells T) := by rw [List.getElem?_map, gq_get hjS, hT]; rfl
    have hae : ∀ h : j < (S.map Sg.cells).length, (S.map Sg.cells)[j] = Sg.cells T := fun h => by rw [List.getElem?_eq_getElem h] at hat; simpa using hat
    obtain ⟨tA, tB⟩ := hSo _ (gq_mem hjS)
    rw [← hM, ← hT] at tA tB
    obtain ⟨ta1, ta2, ta3, ta4⟩ := tA
    obtain ⟨tb1, tb2, tb3, tb4⟩ := tB
    refine .r ?_ (by simp (disch := first|omega|(simp only[ln];omega)) [if_pos, g0u, g5u, g6u, g7u, g8u, g9u, g31u, Hru, Hou, Hau, Hbu, hji, hj2, hat, hae, hSl, List.length_map]; rfl)
    refine J11 _ ?_
    refine ⟨q, ia, ib, T.b, b, hq, by omega, ⟨tb1, tb2, tb3, tb4⟩, hb, by simp (disch := first | omega | (simp; done) | (simp; omega)) [hrestr_in, hrestr_out, hrs, hupd_same], ?_, ?_, ?_, ?_, ?_, ?_, ?_, ?_, ?_, ?_, ?_, ?_, ?_, ?_, rfl⟩ <;> first|(simp (disch := omega) [g0u, g5u, g6u, g7u, g8u, g9u, g31u, Hru, Hou, Hau, Hbu, hat, hae, Sp.cells, Sg.cells];done)|omega|(simp;done)|(simp;omega)
   ·try simp only[dc]at h31
    refine .skip ?_
    refine J11 _ ?_
    refine ⟨q, ia, ib, a, b, hq, by omega, ha, hb, by simp (disch := first | omega | (simp; done) | (simp; omega)) [hrestr_in, hrestr_out, hrs, hupd_same], ?_, ?_, ?_, ?_, ?_, ?_, ?_, ?_, ?_, ?_, ?_, ?_, ?_, ?_, rfl⟩ <;> first|(simp (disch := omega) [g0u, g5u, g6u, g7u, g8u, g9u, g31u, Hru, Hou, Hau, Hbu, Sp.cells, Sg.cells];done)|omega|(simp;done)|(simp;omega)
  by_cases hi0 : 0 < i
  ·refine .region ?_
   refine .k 4 ?_ (by simp (disch := first|omega|(simp only[ln];omega)) [List.take_succ_cons, List.take_zero, hi0, g0, g5, g6, g7, Hr, Ho]; rfl)
   refine AOPS.old fun hold4 => ?_
   refine .a (once_ac 3 (by omega) (by omega) l q3 id _ _ dl hl hq3 (by simp (disch := omega) [hH]) hold4) hb98 ?_ (ha := by simp (disch := first|omega|(simp only[ln];omega)) [idf_Wd', hi0, g0, g5, g6, g7, Hr, Ho])
   rintro _ _ nx4 ⟨⟨b3, rfl⟩, ⟨q4, hq4, rfl⟩, hnx4⟩
   try simp only [] at hnx4
   clear hold4
   refine .e ?_ (by simp (disch := first|omega|(simp only[ln];omega)) [hi0, g0, g5, g6, g7, Hr, Ho]; rfl)
   refine J51 _ ?_
   refine ⟨q4, nx2, nx3, ⟨ax, ay⟩, ⟨dx, dy⟩, b3, hq4, by omega, by unfold bP; simp only []; omega, by unfold bP; simp only []; omega, by simp (disch := first | omega | (simp; done) | (simp; omega)) [hrestr_in, hrestr_out, hrs, hupd_same], fun _ => hi0, ?_, ?_, ?_, ?_, ?_, ?_, ?_, ?_, ?_, ?_, ?_, ?_, ?_, ?_, ?_, rfl⟩ <;> first|(simp (disch := omega) [g0, g5, g6, g7, Hr, Ho, hi0, Sp.cells, Sg.cells];done)|omega|(simp;done)|(simp;omega)
  ·refine .r ?_ (by simp (disch := first|omega|(simp only[ln];omega)) [hi0, g0, g5, g6, g7, Hr, Ho]; rfl)
   refine J51 _ ?_
   refine ⟨q3, nx2, nx3, ⟨ax, ay⟩, ⟨dx, dy⟩, false, hq3, by omega, by unfold bP; simp only []; omega, by unfold bP; simp only []; omega, by simp (disch := first | omega | (simp; done) | (simp; omega)) [hrestr_in, hrestr_out, hrs, hupd_same], fun h => by simp at h, ?_, ?_, ?_, ?_, ?_, ?_, ?_, ?_, ?_, ?_, ?_, ?_, ?_, ?_, ?_, rfl⟩ <;> first|(simp (disch := omega) [g0, g5, g6, g7, Hr, Ho, hi0, Sp.cells, Sg.cells];done)|omega|(simp;done)|(simp;omega)
 ·try simp only[dc]at h19
  have hin : i = n := by omega
  subst hin
  obtain ⟨hM1, hM2⟩ := pM_b hn6
  have hSk : ∀ s ∈ S, Sg.ok s := fun s h => ⟨bP_ok (hSo s h).1 (by omega), bP_ok (hSo s h).2 (by omega)⟩
  refine .exit ?_
  refine hK4 _ ?_
  refine .sq fun K52 hK52 => ?_
  refine .sq fun K53 hK53 => ?_
  refine .region ?_
  refine .k 1 ?_ (by simp (disch := first|omega|(simp only[ln];omega)) [List.take_succ_cons, List.take_zero, g0, g6, Hr]; rfl)
  refine AOPS.old fun hold1 => ?_
  refine .a (once_ac 40 (by omega) (by omega) l q id _ _ dl hl hq (by simp (disch := omega) [Hr]) hold1) hb98 ?_ (ha := by simp (disch := first|omega|(simp only[ln];omega)) [idf_Wd', g0, g6, Hr])
  rintro _ _ nx2 ⟨⟨b4, rfl⟩, ⟨q2, hq2, rfl⟩, hnx2⟩
  try simp only [] at hnx2
  clear hold1
  rcases b4 with _ | _
  · refine .e ?_ (by simp (disch := first|omega|(simp only[ln];omega)) [g0, g6, Hr]; rfl)
    refine hK53 _ ?_
    refine .c (t := false) (fun h105 => by simp at h105) (fun h105 => ?_)
    refine .skip ?_
    refine hK52 _ ?_
    refine .q ?_ (by simp (disch := first|omega|(simp only[ln];omega)) [g5, Ho, hSl]; rfl)
    refine .ret ?_
    exact hK _ _ _ _ _ trivial ((Fin.mk (r := .osl i2 0 i) (by simp (disch := omega) [aRes, aResL, aRes1, g5])).restr (fun j => decide (j < nx) || decide (j = i2))) (⟨S, i2, q2, by simp [hSl], hSk, by simp [hSl]; omega, hq2, hrestr_orS (by simp (disch := first | omega | (simp; done) | (simp; omega)) [hrestr_in, hrestr_out, hrs, hupd_same]) (by simp (disch := omega) [Ho, hSl, List.map_set, Sg.cells]) (by omega), by first|omega|(simp;omega), by first|omega|(simp;omega)⟩)
  refine .e ?_ (by simp (disch := first|omega|(simp only[ln];omega)) [g0, g6, Hr]; rfl)
  refine hK53 _ ?_
  refine .c (t := decide (0 < i)) (fun h105 => ?_) (fun h105 => ?_)
  ·
   have hi0 := of_decide_eq_true h105
   by_cases hn1 : i = 1
   ·have hn1' : (i : Int) = 1 := by omega
    refine .region ?_
    refine .k 3 ?_ (by simp (disch := first|omega|(simp only[ln];omega)) [List.take_succ_cons, List.take_zero, if_pos, hn1', g0, g5, g6, Ho, Hr]; rfl)
    
    refine .a (below1_ac id _ _) hb100 ?_ (ha := by simp (disch := first|omega|(simp only[ln];omega)) [idf_Wd', if_pos, hn1', g0, g5, g6, Ho, Hr])
    rintro _ _ nx3 ⟨rfl, rfl, hnx3⟩
    try simp only [] at hnx3
    refine .k 1 ?_ (by simp (disch := first|omega|(simp only[ln];omega)) [List.take_succ_cons, List.take_zero, if_pos, hn1', g0, g5, g6, Ho, Hr]; rfl)
    refine AOPS.old fun hold5 => ?_
    refine .a (seg_ac l q2 id _ _ dl hl hq2 (by simp (disch := omega) [Hr]) hold5) hb157 ?_ (ha := by simp (disch := first|omega|(simp only[ln];omega)) [idf_Wd', if_pos, hn1', g0, g5, g6, Ho, Hr])
    rintro _ _ nx4 ⟨⟨s, rfl, so⟩, ⟨q4, hq4, rfl⟩, hnx4⟩
    try simp only [] at hnx4
    clear hold5
    refine .e ?_ (by simp (disch := first|omega|(simp only[ln];omega)) [if_pos, hn1', g0, g5, g6, Ho, Hr]; rfl)
    refine hK52 _ ?_
    refine .q ?_ (by simp (disch := first|omega|(simp only[ln];omega)) [g5, Ho, hSl, List.map_set, Sg.cells, List.length_set]; rfl)
    refine .ret ?_
    exact hK _ _ _ _ _ trivial ((Fin.mk (r := .osl i2 0 i) (by simp (disch := omega) [aRes, aResL, aRes1, g5])).restr (fun j => decide (j < nx) || decide (j = i2))) (⟨(S.set 0 s), i2, q4, by simp [hSl], sok_set hSk so, by simp [hSl]; omega, hq4, hrestr_orS (by simp (disch := first | omega | (simp; done) | (simp; omega)) [hrestr_in, hrestr_out, hrs, hupd_same]) (by simp (disch := omega) [Ho, hSl, List.map_set, Sg.cells]) (by omega), by first|omega|(simp;omega), by first|omega|(simp;omega)⟩)
   ·refine .region ?_
    refine .k 3 ?_ (by simp (disch := first|omega|(simp only[ln];omega)) [List.take_succ_cons, List.take_zero, if_pos, g0, g5, g6, Ho, Hr]; rfl)
    refine AOPS.old fun hold3 => ?_
    refine .a (below_ac (i : Int) (by omega) (by omega) l q2 id _ _ dl hl hq2 (by simp (disch := omega) [Hr]) hold3) hb100 ?_ (ha := by simp (disch := first|omega|(simp only[ln];omega)) [idf_Wd', if_pos, g0, g5, g6, Ho, Hr])
    rintro _ _ nx3 ⟨⟨k, rfl, k0, k1⟩, ⟨q3, hq3, rfl⟩, hnx3⟩
    try simp only [] at hnx3
    clear hold3
    obtain ⟨K, rfl⟩ := Int.eq_ofNat_of_zero_le k0
    have hKs : K < S.length := by omega
    have hKi : K < i := by omega
    refine .k 1 ?_ (by simp (disch := first|omega|(simp only[ln];omega)) [List.take_succ_cons, List.take_zero, if_pos, g0, g5, g6, Ho, Hr]; rfl)
    refine AOPS.old fun hold5 => ?_
    refine .a (seg_ac l q3 id _ _ dl hl hq3 (by simp (disch := omega) [Hr]) hold5) hb157 ?_ (ha := by simp (disch := first|omega|(simp only[ln];omega)) [idf_Wd', if_pos, g0, g5, g6, Ho, Hr])
    rintro _ _ nx4 ⟨⟨s, rfl, so⟩, ⟨q4, hq4, rfl⟩, hnx4⟩
    try simp only [] at hnx4
    clear hold5
    refine .e ?_ (by simp (disch := first|omega|(simp only[ln];omega)) [if_pos, g0, g5, g6, Ho, Hr]; rfl)
    refine hK52 _ ?_
    refine .q ?_ (by simp (disch := first|omega|(simp only[ln];omega)) [g5, Ho, hSl, List.map_set, Sg.cells, List.length_set]; rfl)
    refine .ret ?_
    exact hK _ _ _ _ _ trivial ((Fin.mk (r := .osl i2 0 i) (by simp (disch := omega) [aRes, aResL, aRes1, g5])).restr (fun j => decide (j < nx) || decide (j = i2))) (⟨(S.set K s), i2, q4, by simp [hSl], sok_set hSk so, by simp [hSl]; omega, hq4, hrestr_orS (by simp (disch := first | omega | (simp; done) | (simp; omega)) [hrestr_in, hrestr_out, hrs, hupd_same]) (by simp (disch := omega) [Ho, hSl, List.map_set, Sg.cells]) (by omega), by first|omega|(simp;omega), by first|omega|(simp;omega)⟩)
  ·
   refine .skip ?_
   refine hK52 _ ?_
   refine .q ?_ (by simp (disch := first|omega|(simp only[ln];omega)) [g5, Ho, hSl, List.map_set, Sg.cells, List.length_set]; rfl)
   refine .ret ?_
   exact hK _ _ _ _ _ trivial ((Fin.mk (r := .osl i2 0 i) (by simp (disch := omega) [aRes, aResL, aRes1, g5])).restr (fun j => decide (j < nx) || decide (j = i2))) (⟨S, i2, q2, by simp [hSl], hSk, by simp [hSl]; omega, hq2, hrestr_orS (by simp (disch := first | omega | (simp; done) | (simp; omega)) [hrestr_in, hrestr_out, hrs, hupd_same]) (by simp (disch := omega) [Ho, hSl, List.map_set, Sg.cells]) (by omega), by first|omega|(simp;omega), by first|omega|(simp;omega)⟩)
end

end Go.Proofs.YtaibemhdfhchfaaGreat

/- Walks: drawn segments and points; rows of numbers compared. -/
namespace Go.Proofs.YtaibemhdfhchfaaGreat
open Go Go.RowKit
set_option linter.unusedSimpArgs false
set_option linter.unusedVariables false
set_option maxRecDepth 100000
attribute [local simp] szT2 byT2 agT2 unT2 zoT2 szT3 byT3 agT3 unT3 zoT3 szT27 byT27 agT27 flT27 fdT27_0 fdT27_1 fdT27_2 fdT27_3 zoT27 szT29 byT29 agT29 flT29 fdT29_0 fdT29_1 fdT29_2 zoT29 szT32 byT32 agT32 elT32 unT32 zoT32

theorem wd_at {l : List Int} {i : Nat} (h : i < l.length) : (wd .i64 l)[i]? = some [.int .i64 (gt l i)] := by
  unfold wd gt; rw [List.getElem?_map, List.getElem?_eq_getElem h]; simp

set_option maxHeartbeats 1000000 in
theorem sameInts_fc (a : List Int) (ha : a.length ≤ 1048576) : FC Tryz.prog 17 [Wd .i64 a, Wd .i64 a] (.bool true) := by
 refine .b Tryz.func17 26 (fun nx K hK => ?_)
 refine .q ?_
 refine .sq fun K2 hK2 => ?_
 refine .q ?_ (by simp (disch := first|omega|(simp only[ln];omega)) [len_Wd (P := Tryz.prog) #[32] rfl elT32]; rfl)
 refine .c (t := false) (fun h10 => ?_) (fun h10 => ?_)
 ·simp at h10
 ·try simp only[dc]at h10
  refine .skip ?_
  refine hK2 _ ?_
  refine .sq fun K4 hK4 => ?_
  refine .q ?_
  refine .block ?_
  
  refine .loop (fun N s => ∃ i : Nat, N = a.length - i ∧ i ≤ a.length ∧ s.env 0 = Wd .i64 a ∧ s.env 1 = Wd .i64 a ∧ s.env 5 = .int .i64 (i : Int) ∧ s.nt = 26) (a.length) (by refine ⟨0, by omega, by omega, ?_, ?_, ?_, rfl⟩ <;> first|(simp (disch := omega);done)|omega|(simp;done)|(simp;omega)) ?_
  rintro N ⟨e, H, mm, nt⟩ ⟨i, rfl, hi, g0, g1, g5, rfl⟩
  simp only [] at g0 g1 g5
  refine .sq fun K6 hK6 => ?_
  refine .q ?_ (by simp (disch := first|omega|(simp only[ln];omega)) [len_Wd (P := Tryz.prog) #[32] rfl elT32, g0, g5]; rfl)
  refine .c (fun h14 => ?_) (fun h14 => ?_)
  ·try simp only[dc]at h14
   have hi' : i < a.length := by omega
   have hat := wd_at hi'
   have hae : ∀ h : i < (wd .i64 a).length, (wd .i64 a)[i] = [.int .i64 (gt a i)] := fun h => by rw [List.getElem?_eq_getElem h] at hat; simpa using hat
   refine .skip ?_
   refine hK6 _ ?_
   refine .sq fun K8 hK8 => ?_
   refine .block ?_
   refine .sq fun K9 hK9 => ?_
   refine .df 9 ?_ (by simp (disch := first|omega|(simp only[ln];omega)) [runDf.eq_def, runF1, runF2, stepF.eq_def, updo.eq_def, hupo.eq_def, opSto1.eq_def, idx_WdD (P := Tryz.prog) elT32 szT2, if_pos, g0, g1, g5, hat, hae, hi']; rfl)
   refine hK9 _ ?_
   refine .c (t := false) (fun h25 => ?_) (fun h25 => ?_)
   ·simp at h25
   ·try simp only[dc]at h25
    refine .skip ?_
    refine hK8 _ ?_
    refine .r ?_ (by simp (disch := first|omega|(simp only[ln];omega)) [g5]; rfl)
    refine ⟨a.length - (i + 1), by omega, i + 1, rfl, by omega, ?_, ?_, ?_, rfl⟩ <;> first|(simp (disch := omega) [g0, g1, g5];done)|omega|(simp;done)|(simp;omega)
  ·try simp only[dc]at h14
   refine .exit ?_
   refine hK4 _ ?_
   refine .q ?_
   refine .ret ?_
   exact hK _ _ _ _ trivial ((Fin.mk (r := .bool true) (by simp [aRes, aResL, aRes1]; try rfl)))
set_option maxHeartbeats 1000000 in
theorem hasInt_no (a : List Int) (x : Int) (ha : a.length ≤ 1048576) (hx : ∀ i, i < a.length → gt a i ≠ x) : FC Tryz.prog 19 [Wd .i64 a, .int .i64 x] (.bool false) := by
 refine .b Tryz.func19 18 (fun nx K hK => ?_)
 refine .q ?_
 refine .sq fun K2 hK2 => ?_
 refine .q ?_
 refine .block ?_
 
 refine .loop (fun N s => ∃ i : Nat, N = a.length - i ∧ i ≤ a.length ∧ s.env 0 = Wd .i64 a ∧ s.env 1 = .int .i64 x ∧ s.env 5 = .int .i64 (i : Int) ∧ s.nt = 18) (a.length) (by refine ⟨0, by omega, by omega, ?_, ?_, ?_, rfl⟩ <;> first|(simp (disch := omega);done)|omega|(simp;done)|(simp;omega)) ?_
 rintro N ⟨e, H, mm, nt⟩ ⟨i, rfl, hi, g0, g1, g5, rfl⟩
 simp only [] at g0 g1 g5
 refine .sq fun K4 hK4 => ?_
 refine .q ?_ (by simp (disch := first|omega|(simp only[ln];omega)) [len_Wd (P := Tryz.prog) #[32] rfl elT32, g0, g5]; rfl)
 refine .c (fun h9 => ?_) (fun h9 => ?_)
 ·try simp only[dc]at h9
  have hi' : i < a.length := by omega
  have hne : (gt a i == x) = false := by simpa using hx i hi'
  have hat := wd_at hi'
  have hae : ∀ h : i < (wd .i64 a).length, (wd .i64 a)[i] = [.int .i64 (gt a i)] := fun h => by rw [List.getElem?_eq_getElem h] at hat; simpa using hat
  refine .skip ?_
  refine hK4 _ ?_
  refine .sq fun K6 hK6 => ?_
  refine .block ?_
  refine .q ?_ (by simp (disch := first|omega|(simp only[ln];omega)) [idx_WdD (P := Tryz.prog) elT32 szT2, if_pos, g0, g1, g5, hat, hae, hi']; rfl)
  refine .c (t := gt a i == x) (fun h17 => ?_) (fun h17 => ?_)
  ·rw [hne] at h17; simp at h17
  ·try simp only[dc]at h17
   refine .skip ?_
   refine hK6 _ ?_
   refine .r ?_ (by simp (disch := first|omega|(simp only[ln];omega)) [g5]; rfl)
   refine ⟨a.length - (i + 1), by omega, i + 1, rfl, by omega, ?_, ?_, ?_, rfl⟩ <;> first|(simp (disch := omega) [g0, g1, g5];done)|omega|(simp;done)|(simp;omega)
 ·try simp only[dc]at h9
  refine .exit ?_
  refine hK2 _ ?_
  refine .q ?_
  refine .ret ?_
  exact hK _ _ _ _ trivial ((Fin.mk (r := .bool false) (by simp [aRes, aResL, aRes1]; try rfl)))
section
attribute [local simp] Sp.av Sp.cells Sg.av Sg.cells
set_option maxHeartbeats 4000000 in
theorem drawStatusAt_ac (l : List Int) (H0 : Heap) (nx : Nat) (dl : Dig 256 l) (hl : l.length ≤ 1048576) (hd : ∀ i q, H0 i = some q → i < nx) : ACall Tryz.prog 15 [Wd .u8 l] H0 nx (fun r H' nx' => ∃ (S : List Sg) (P : Pt) (i2 : Nat), r = .tup [.osl i2 0 S.length, .agg [.int .u64 (P).x.a, .int .u64 (P).x.b, .int .u64 (P).x.c, .int .u64 (P).x.d, .int .u64 (P).y.a, .int .u64 (P).y.b, .int .u64 (P).y.c, .int .u64 (P).y.d, .int .u64 (P).w.a, .int .u64 (P).w.b, .int .u64 (P).w.c, .int .u64 (P).w.d]] ∧ (∀ s ∈ S, Sg.ok s) ∧ S.length ≤ 6 ∧ P.ok ∧ H' = hupd H0 i2 (some (4, S.map Sg.cells)) ∧ nx ≤ i2 ∧ i2 < nx') := by
 refine .b Tryz.func15 11 fun K hK => ?_
 refine .q ?_
 refine .sq fun K2 hK2 => ?_
 refine .region ?_
 refine .k 1 ?_
 refine AOPS.old fun hold1 => ?_
 refine .a (open_ac l _ _) hb72 ?_
 rintro _ _ nx1 ⟨rfl, rfl, rfl⟩
 clear hold1
 obtain ⟨id, hid⟩ : ∃ id, id = nx + 1 := ⟨_, rfl⟩
 obtain ⟨p, hH⟩ : ∃ p : Nat, p = 0 := ⟨_, rfl⟩
 have hp : p ≤ l.length := by omega
 simp only []
 rw [← hid]
 refine .e ?_
 refine hK2 _ ?_
 refine .sq fun K3 hK3 => ?_
 refine .region ?_
 refine .k 1 ?_
 refine AOPS.old fun hold1 => ?_
 refine .a (segs_ac l p id _ _ dl hl hp (by simp (disch := omega) [hH]) hold1) hb73 ?_
 rintro _ _ nx2 ⟨S, i2, p2, rfl, So, Sl, hp2, rfl, hi2a, hi2b⟩
 try simp only [] at hi2a hi2b
 clear hold1
 refine .k 1 ?_
 refine AOPS.old fun hold3 => ?_
 refine .a (point_ac l p2 id _ _ dl hl hp2 (by simp (disch := omega) [hH]) hold3) hb74 ?_
 rintro _ _ nx3 ⟨⟨P, rfl, Po⟩, ⟨p3, hp3, rfl⟩, hnx3⟩
 try simp only [] at hnx3
 clear hold3
 refine .e ?_
 refine hK3 _ ?_
 refine .ret ?_
 exact hK _ _ _ _ _ trivial ((Fin.mk (r := .tup [.osl i2 0 S.length, .agg [.int .u64 (P).x.a, .int .u64 (P).x.b, .int .u64 (P).x.c, .int .u64 (P).x.d, .int .u64 (P).y.a, .int .u64 (P).y.b, .int .u64 (P).y.c, .int .u64 (P).y.d, .int .u64 (P).w.a, .int .u64 (P).w.b, .int .u64 (P).w.c, .int .u64 (P).w.d]]) (by simp (disch := omega) [aRes, aResL, aRes1]; try rfl)).restr (fun j => decide (j < nx) || decide (j = i2))) (⟨S, P, i2, rfl, So, Sl, Po, hrestr_orS (by simp (disch := first | omega | (simp; done) | (simp; omega)) [hrestr_in, hrestr_out, hrestr_all hd, hupd_same]) (by simp (disch := omega)) (by omega), by omega, by first|omega|(simp;omega)⟩)
end

end Go.Proofs.YtaibemhdfhchfaaGreat
