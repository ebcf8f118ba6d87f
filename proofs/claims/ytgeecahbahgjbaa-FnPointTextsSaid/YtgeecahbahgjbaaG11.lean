/- Walks: points made by the reference. -/
import Derived.Test.YtgeecahbahgjbaaG10

namespace Go.Proofs.Ytgeecahbahgjbaa
open Go Go.RowKit
set_option linter.unusedSimpArgs false
set_option linter.unusedVariables false
set_option maxRecDepth 100000
attribute [local simp] szT2 byT2 agT2 unT2 zoT2 szT4 byT4 agT4 unT4 zoT4 szT24 byT24 agT24 unT24 zoT24 szT26 byT26 agT26 flT26 fdT26_0 fdT26_1 fdT26_2 fdT26_3 zoT26 szT28 byT28 agT28 flT28 fdT28_0 fdT28_1 fdT28_2 zoT28 szT44 byT44 agT44 elT44 unT44 zoT44 szT46 byT46 agT46 flT46 fdT46_0 fdT46_1 zoT46 szT48 byT48 agT48 flT48 fdT48_0 fdT48_1 fdT48_2 zoT48 szT75 byT75 agT75 flT75 fdT75_0 fdT75_1 zoT75 szT86 byT86 agT86 unT86 zoT86

section
attribute [local simp] idf_numS cells_numS numS_fold
set_option maxHeartbeats 2000000 in
theorem l1Div_fc {j : Nat} (a b : Int) (hb0 : b ≠ 0) (ha : Bg j a) (hb : Bg j b) (hj : j ≤ 16777216) : FC Try.prog 79 [numS a, numS b] (.tup [numS (a / b), numS (a % b)]) := by
 have hD := l1DivAbs_fc a.natAbs b.natAbs (by omega) ha.abs hb.abs hj
 rw [dg_abs, dg_abs] at hD
 have eu := eu_lem a b hb0
 generalize hq : ((a.natAbs / b.natAbs : Nat) : Int) = q0 at *
 generalize hr : ((a.natAbs % b.natAbs : Nat) : Int) = r0 at *
 have q0n : 0 ≤ q0 := by rw [← hq]; exact Int.natCast_nonneg _
 have r0n : 0 ≤ r0 := by rw [← hr]; exact Int.natCast_nonneg _
 have bq : Bg j q0 := by
   rw [← hq]; unfold Bg at *; rw [Int.natAbs_natCast]; have := Nat.div_le_self a.natAbs b.natAbs; omega
 have br : Bg j r0 := by
   rw [← hr]; unfold Bg at *; rw [Int.natAbs_natCast]; have := Nat.mod_le a.natAbs b.natAbs; omega
 have bqs : ∀ s, Bg j (sg s q0) := fun s => by cases s <;> simp only [sg_true, sg_false]; exact bq; exact bq.neg
 have brs : ∀ s, Bg j (sg s r0) := fun s => by cases s <;> simp only [sg_true, sg_false]; exact br; exact br.neg
 have lq := bq.len32
 have lr := br.len32
 have hT1 := l1Trim_fc (decide (a < 0) != decide (b < 0)) (dg q0) (by omega) (dg_dig _)
 rw [dg_val, Int.natAbs_of_nonneg q0n] at hT1
 have hT2 := l1Trim_fc (decide (a < 0)) (dg r0) (by omega) (dg_dig _)
 rw [dg_val, Int.natAbs_of_nonneg r0n] at hT2
 obtain ⟨S, hS⟩ : ∃ S, (decide (a < 0) != decide (b < 0)) = S := ⟨_, rfl⟩
 have hS2 : (decide (a < 0) == decide (b < 0)) = !S := by rw [← hS]; cases decide (a < 0) <;> cases decide (b < 0) <;> rfl
 rw [hS] at eu hT1
 refine .b Try.func79 47 (fun nx K hK => ?_)
 refine .q ?_
 refine .sq fun K2 hK2 => ?_
 refine .region ?_
 refine .kf 4 hD hb67 ?_
 refine .e ?_
 refine hK2 _ ?_
 refine .sq fun K3 hK3 => ?_
 refine .region ?_
 refine .kf 6 hT1 hb46 ?_ (by simp (disch := first|omega|(simp only[ln];omega)) [List.take_succ_cons, List.take_zero, hS2]; rfl) (ha := by simp (disch := first|omega|(simp only[ln];omega)) [idf_Wd', hS2])
 refine .e ?_ (by simp (disch := first|omega|(simp only[ln];omega)) [hS2]; rfl)
 refine hK3 _ ?_
 refine .sq fun K4 hK4 => ?_
 refine .region ?_
 refine .kf 3 hT2 hb46 ?_
 refine .e ?_
 refine hK4 _ ?_
 refine .sq fun K5 hK5 => ?_
 refine .q ?_
 refine .c (t := decide (sg (decide (a < 0)) r0 < 0)) (fun h30 => ?_) (fun h30 => ?_)
 ·try simp only[dc]at h30
  refine .q ?_
  refine .c (t := decide (b < 0)) (fun h32 => ?_) (fun h32 => ?_)
  ·try simp only[dc]at h32
   have e := eu.2.1 h30 h32
   refine .sq fun K8 hK8 => ?_
   refine .d 3 ?_
   refine .k 1 (fun fs9 hfs9 => ?_)
   refine .f (l1Int_fc 1 (by omega) (by omega)) hb21 ?_
   refine .f (l1Add_fc (bqs S) (Bg.i64 (n := 1) (by omega) (by omega)) (by omega) (by omega)) hb69 ?_
   refine .r 3 (by simp only[ln, hfs9];omega) ?_
   refine hK8 _ ?_
   refine .region ?_
   refine .kf 2 (l1Sub_fc (brs (decide (a < 0))) hb (by omega) (by omega)) hb47 ?_
   refine .e ?_
   refine hK5 _ ?_
   refine .sq fun K10 hK10 => ?_
   refine .old fun hold => ?_
   refine .d 2 ?_
   refine .k 1 (fun fs11 hfs11 => ?_)
   refine DP.runF1q (by simp (disch := first|omega|(simp only[ln];omega)) [runDf.eq_def, runF1, runF2, stepF.eq_def, updo.eq_def, hupo.eq_def, opSto1.eq_def]; rfl) fun fq12 hfq12 => ?_
   simp [qids, asksB, Op.operands, topId] at hfq12
   simp only [updo]
   refine DQ.sto1 (m := 2) [1] _ (by simp (disch := first|omega|(simp only[ln];omega)) [runDf.eq_def, runF1, runF2, stepF.eq_def, updo.eq_def, hupo.eq_def, opSto1.eq_def]; rfl) rfl (by simp only[ln, hfs11];omega) (by kernel_rfl) (by intro k f hk hex; simp only [List.mem_cons, List.not_mem_nil, or_false] at hex; rcases hex with rfl <;> (simp [List.getElem?_append, hfs11] at hk; subst hk; refine ⟨?_, by first | omega | (simp; done) | (simp; omega)⟩; simp [qids, asksB, Op.operands, Call.operands, topId, numS, numI, Wd, hfq12]; try omega)) ?_
   try simp only []
   refine DQ.sto1 (m := 2) [] _ (by simp (disch := first|omega|(simp only[ln];omega)) [runDf.eq_def, runF1, runF2, stepF.eq_def, updo.eq_def, hupo.eq_def, opSto1.eq_def]; rfl) rfl (by simp only[ln, hfs11];omega) (by kernel_rfl) (by intro k f hk hex; simp only [List.not_mem_nil] at hex) ?_
   try simp only []
   refine hK10 _ ?_
   refine .ret ?_
   exact hK _ _ _ _ trivial ((Fin.m).cast (by rw [e.1, e.2]))
  ·try simp only[dc]at h32
   have e := eu.2.2 h30 h32
   refine .sq fun K13 hK13 => ?_
   refine .d 3 ?_
   refine .k 1 (fun fs14 hfs14 => ?_)
   refine .f (l1Int_fc 1 (by omega) (by omega)) hb21 ?_
   refine .f (l1Sub_fc (bqs S) (Bg.i64 (n := 1) (by omega) (by omega)) (by omega) (by omega)) hb47 ?_
   refine .r 3 (by simp only[ln, hfs14];omega) ?_
   refine hK13 _ ?_
   refine .region ?_
   refine .kf 2 (l1Add_fc (brs (decide (a < 0))) hb (by omega) (by omega)) hb69 ?_
   refine .e ?_
   refine hK5 _ ?_
   refine .sq fun K15 hK15 => ?_
   refine .old fun hold => ?_
   refine .d 2 ?_
   refine .k 1 (fun fs16 hfs16 => ?_)
   refine DP.runF1q (by simp (disch := first|omega|(simp only[ln];omega)) [runDf.eq_def, runF1, runF2, stepF.eq_def, updo.eq_def, hupo.eq_def, opSto1.eq_def]; rfl) fun fq17 hfq17 => ?_
   simp [qids, asksB, Op.operands, topId] at hfq17
   simp only [updo]
   refine DQ.sto1 (m := 2) [1] _ (by simp (disch := first|omega|(simp only[ln];omega)) [runDf.eq_def, runF1, runF2, stepF.eq_def, updo.eq_def, hupo.eq_def, opSto1.eq_def]; rfl) rfl (by simp only[ln, hfs16];omega) (by kernel_rfl) (by intro k f hk hex; simp only [List.mem_cons, List.not_mem_nil, or_false] at hex; rcases hex with rfl <;> (simp [List.getElem?_append, hfs16] at hk; subst hk; refine ⟨?_, by first | omega | (simp; done) | (simp; omega)⟩; simp [qids, asksB, Op.operands, Call.operands, topId, numS, numI, Wd, hfq17]; try omega)) ?_
   try simp only []
   refine DQ.sto1 (m := 2) [] _ (by simp (disch := first|omega|(simp only[ln];omega)) [runDf.eq_def, runF1, runF2, stepF.eq_def, updo.eq_def, hupo.eq_def, opSto1.eq_def]; rfl) rfl (by simp only[ln, hfs16];omega) (by kernel_rfl) (by intro k f hk hex; simp only [List.not_mem_nil] at hex) ?_
   try simp only []
   refine hK15 _ ?_
   refine .ret ?_
   exact hK _ _ _ _ trivial ((Fin.m).cast (by rw [e.1, e.2]))
 ·try simp only[dc]at h30
  have e := eu.1 h30
  refine .skip ?_
  refine hK5 _ ?_
  refine .sq fun K18 hK18 => ?_
  refine .old fun hold => ?_
  refine .d 2 ?_
  refine .k 1 (fun fs19 hfs19 => ?_)
  refine DP.runF1q (by simp (disch := first|omega|(simp only[ln];omega)) [runDf.eq_def, runF1, runF2, stepF.eq_def, updo.eq_def, hupo.eq_def, opSto1.eq_def]; rfl) fun fq20 hfq20 => ?_
  simp [qids, asksB, Op.operands, topId] at hfq20
  simp only [updo]
  refine DQ.sto1 (m := 2) [1] _ (by simp (disch := first|omega|(simp only[ln];omega)) [runDf.eq_def, runF1, runF2, stepF.eq_def, updo.eq_def, hupo.eq_def, opSto1.eq_def]; rfl) rfl (by simp only[ln, hfs19];omega) (by kernel_rfl) (by intro k f hk hex; simp only [List.mem_cons, List.not_mem_nil, or_false] at hex; rcases hex with rfl <;> (simp [List.getElem?_append, hfs19] at hk; subst hk; refine ⟨?_, by first | omega | (simp; done) | (simp; omega)⟩; simp [qids, asksB, Op.operands, Call.operands, topId, numS, numI, Wd, hfq20]; try omega)) ?_
  try simp only []
  refine DQ.sto1 (m := 2) [] _ (by simp (disch := first|omega|(simp only[ln];omega)) [runDf.eq_def, runF1, runF2, stepF.eq_def, updo.eq_def, hupo.eq_def, opSto1.eq_def]; rfl) rfl (by simp only[ln, hfs19];omega) (by kernel_rfl) (by intro k f hk hex; simp only [List.not_mem_nil] at hex) ?_
  try simp only []
  refine hK18 _ ?_
  refine .ret ?_
  exact hK _ _ _ _ trivial ((Fin.m).cast (by rw [e.1, e.2]))
set_option maxHeartbeats 2000000 in
theorem l3Make_fc {j : Nat} (x y w : Int) (hw : w ≠ 0) (bx : Bg j x) (bY : Bg j y) (bw : Bg j w) (hj0 : 1 ≤ j) (hj : j ≤ 16777216) : FC Try.prog 55 [numS x, numS y, numS w] (l3A (nrm w x / gcd3 x y w) (nrm w y / gcd3 x y w) (nrm w w / gcd3 x y w)) := by
 have hgp := gcd3_pos (x := x) (y := y) hw
 have hg3 := gcd3_nrm x y w
 refine .b Try.func55 47 (fun nx K hK => ?_) (hr := by simp [idfL, idf, l3A, l3C, idf_Wd'])
 refine .q ?_
 refine .sq fun K2 hK2 => ?_
 have J2 : ∀ s : St, (∃ X Y W : Int, X = nrm w x ∧ Y = nrm w y ∧ W = nrm w w ∧ s.env 3 = .ptr nx 0 0 ∧ s.env 4 = .ptr (nx + 1) 0 0 ∧ s.env 5 = .ptr (nx + 1 + 1) 0 0 ∧ s.env 6 = .ptr (nx + 1 + 1 + 1) 0 0 ∧ s.heap nx = some (2, [[.bool (decide (X < 0)), Wd .u32 (dg X)]]) ∧ s.heap (nx + 1) = some (2, [[.bool (decide (Y < 0)), Wd .u32 (dg Y)]]) ∧ s.heap (nx + 1 + 1) = some (2, [[.bool (decide (W < 0)), Wd .u32 (dg W)]]) ∧ s.heap (nx + 1 + 1 + 1) = some (6, [[.bool false, .nsl, .bool false, .nsl, .bool false, .nsl]]) ∧ nx + 1 + 1 + 1 < s.nx ∧ s.nt = 47) → K2 s := by
  rintro ⟨e, H, mm, nt⟩ ⟨X, Y, W, hX, hY, hW, h3, h4, h5, h6, hA, hB, hC, hD, hm, rfl⟩
  simp only [] at h3 h4 h5 h6 hA hB hC hD hm
  rw [← hX, ← hY, ← hW] at hg3
  have cX : Bg j X := by rw [hX]; exact bx.nrm
  have cY : Bg j Y := by rw [hY]; exact bY.nrm
  have cW : Bg j W := by rw [hW]; exact bw.nrm
  have bG1 : Bg j ((Int.gcd X Y : Nat) : Int) := Bg.gcd cX.abs cY.abs
  have bG : Bg j (gcd3 x y w) := by rw [← hg3]; exact Bg.gcd bG1 cW.abs
  have hg2 : FC Try.prog 44 [numS ((Int.gcd X Y : Nat) : Int), numS W] (numS (gcd3 x y w)) := by
    have h := l1Gcd_fc ((Int.gcd X Y : Nat) : Int) W bG1 cW hj
    have e : ((Int.gcd ((Int.gcd X Y : Nat) : Int) W : Nat) : Int) = gcd3 x y w := by rw [← hg3]; simp [Int.gcd, gcd3]
    rw [e] at h; exact h
  obtain ⟨cc, hcf, hce⟩ : ∃ c : Int, FC Try.prog 20 [numS (gcd3 x y w), numS 1] (.int .i64 c) ∧ (c == 0) = decide (gcd3 x y w = 1) := ⟨_, l1Cmp_fc bG (Bg.i64 (n := 1) (by omega) (by omega)) (by omega) (by omega), one_cmp _⟩
  generalize hgg : gcd3 x y w = g at *
  refine hK2 _ ?_
  refine .sq fun K3 hK3 => ?_
  refine .d 6 ?_
  refine .k 2 (fun fs4 hfs4 => ?_) (by simp (disch := first|omega|(simp only[ln];omega)) [runDf.eq_def, runF1, runF2, stepF.eq_def, updo.eq_def, hupo.eq_def, opSto1.eq_def, List.take_succ_cons, List.take_zero, h3, h4, h5, hA, hB, hC, Nat.ne_of_lt hm]; rfl)
  refine .f (l1Gcd_fc X Y cX cY hj) hb44 ?_ (ha := by simp (disch := first|omega|(simp only[ln];omega)) [idf_Wd', h3, h4, h5, hA, hB, hC, Nat.ne_of_lt hm])
  refine .k 1 (fun fs5 hfs5 => ?_) (by simp (disch := first|omega|(simp only[ln];omega)) [runDf.eq_def, runF1, runF2, stepF.eq_def, updo.eq_def, hupo.eq_def, opSto1.eq_def, List.take_succ_cons, List.take_zero, h3, h4, h5, hA, hB, hC, Nat.ne_of_lt hm]; rfl)
  refine .f hg2 hb44 ?_ (ha := by simp (disch := first|omega|(simp only[ln];omega)) [idf_Wd', h3, h4, h5, hA, hB, hC, Nat.ne_of_lt hm])
  refine .k 1 (fun fs6 hfs6 => ?_) (by simp (disch := first|omega|(simp only[ln];omega)) [runDf.eq_def, runF1, runF2, stepF.eq_def, updo.eq_def, hupo.eq_def, opSto1.eq_def, List.take_succ_cons, List.take_zero, h3, h4, h5, hA, hB, hC, Nat.ne_of_lt hm]; rfl)
  refine .r 6 (by simp only[ln, hfs4, hfs5, hfs6];omega) ?_ (by simp (disch := first|omega|(simp only[ln];omega)) [runDf.eq_def, runF1, runF2, stepF.eq_def, updo.eq_def, hupo.eq_def, opSto1.eq_def, h3, h4, h5, hA, hB, hC, Nat.ne_of_lt hm]; rfl)
  refine hK3 _ ?_
  refine .sq fun K7 hK7 => ?_
  refine .sq fun K8 hK8 => ?_
  refine .d 4 ?_
  refine .k 1 (fun fs9 hfs9 => ?_)
  refine .f (l1Int_fc 1 (by omega) (by omega)) hb21 ?_
  refine .f hcf hb20 ?_
  refine .k 1 (fun fs10 hfs10 => ?_)
  refine .r 4 (by simp only[ln, hfs9, hfs10];omega) ?_
  refine hK8 _ ?_
  refine .c (t := !decide (g = 1)) (fun h24 => ?_) (fun h24 => ?_) (by simp (disch := first|omega|(simp only[ln];omega)) [bne, hce])
  ·try simp only[dc]at h24
   refine .sq fun K11 hK11 => ?_
   refine .region ?_
   refine .kf 2 (l1Div_fc X g (by omega) cX bG hj) hb79 ?_ (by simp (disch := first|omega|(simp only[ln];omega)) [List.take_succ_cons, List.take_zero, h3, hA]; rfl) (ha := by simp (disch := first|omega|(simp only[ln];omega)) [idf_Wd', h3, hA])
   refine .e ?_ (by simp (disch := first|omega|(simp only[ln];omega)) [h3, hA]; rfl)
   refine hK11 _ ?_
   refine .sq fun K12 hK12 => ?_
   refine .region ?_
   refine .kf 2 (l1Div_fc Y g (by omega) cY bG hj) hb79 ?_ (by simp (disch := first|omega|(simp only[ln];omega)) [List.take_succ_cons, List.take_zero, h4, hB]; rfl) (ha := by simp (disch := first|omega|(simp only[ln];omega)) [idf_Wd', h4, hB])
   refine .e ?_ (by simp (disch := first|omega|(simp only[ln];omega)) [h4, hB]; rfl)
   refine hK12 _ ?_
   refine .region ?_
   refine .kf 2 (l1Div_fc W g (by omega) cW bG hj) hb79 ?_ (by simp (disch := first|omega|(simp only[ln];omega)) [List.take_succ_cons, List.take_zero, h5, hC]; rfl) (ha := by simp (disch := first|omega|(simp only[ln];omega)) [idf_Wd', h5, hC])
   refine .e ?_ (by simp (disch := first|omega|(simp only[ln];omega)) [h5, hC]; rfl)
   refine hK7 _ ?_
   refine .q ?_ (by simp (disch := first|omega|(simp only[ln];omega)) [h3, h4, h5, h6, hD]; rfl)
   refine .ret ?_
   exact hK _ _ _ _ trivial ((Fin.mk (by simp (disch := omega) [aRes, aResL, aRes1, h6]; rfl)).cast (by rw [← hX, ← hY, ← hW]; first | done | rfl))
  ·try simp only[dc]at h24
   have hg1 : g = 1 := by simpa using h24
   refine .skip ?_
   refine hK7 _ ?_
   refine .q ?_ (by simp (disch := first|omega|(simp only[ln];omega)) [h3, h4, h5, h6, hA, hB, hC, hD]; rfl)
   refine .ret ?_
   exact hK _ _ _ _ trivial ((Fin.mk (by simp (disch := omega) [aRes, aResL, aRes1, h6]; rfl)).cast (by rw [← hX, ← hY, ← hW, hg1, Int.ediv_one, Int.ediv_one, Int.ediv_one]; first | done | rfl))
 refine .q ?_
 refine .c (t := decide (w < 0)) (fun h9 => ?_) (fun h9 => ?_)
 ·try simp only[dc]at h9
  refine .old fun hold => ?_
  refine .d 6 ?_
  refine .k 1 (fun fs16 hfs16 => ?_)
  refine .f (l1Neg_fc x) hb70 ?_
  refine DP.runF1q (by simp (disch := first|omega|(simp only[ln];omega)) [runDf.eq_def, runF1, runF2, stepF.eq_def, updo.eq_def, hupo.eq_def, opSto1.eq_def]; rfl) fun fq17 hfq17 => ?_
  simp [qids, asksB, Op.operands, topId] at hfq17
  simp only [updo]
  refine .f (l1Neg_fc y) hb70 ?_
  refine DP.runF1q (by simp (disch := first|omega|(simp only[ln];omega)) [runDf.eq_def, runF1, runF2, stepF.eq_def, updo.eq_def, hupo.eq_def, opSto1.eq_def]; rfl) fun fq18 hfq18 => ?_
  simp [qids, asksB, Op.operands, topId] at hfq18
  simp only [updo]
  refine .f (l1Neg_fc w) hb70 ?_
  refine DQ.sto1 (m := 6) [2, 3, 4] _ (by simp (disch := first|omega|(simp only[ln];omega)) [runDf.eq_def, runF1, runF2, stepF.eq_def, updo.eq_def, hupo.eq_def, opSto1.eq_def]; rfl) rfl (by simp only[ln, hfs16];omega) (by kernel_rfl) (by intro k f hk hex; simp only [List.mem_cons, List.not_mem_nil, or_false] at hex; rcases hex with rfl | rfl | rfl <;> (simp [List.getElem?_append, hfs16] at hk; subst hk; refine ⟨?_, by first | omega | (simp; done) | (simp; omega)⟩; simp [qids, asksB, Op.operands, Call.operands, topId, numS, numI, Wd, hfq17, hfq18]; try omega)) ?_
  try simp only []
  refine DQ.sto1 (m := 6) [4, 5] _ (by simp (disch := first|omega|(simp only[ln];omega)) [runDf.eq_def, runF1, runF2, stepF.eq_def, updo.eq_def, hupo.eq_def, opSto1.eq_def]; rfl) rfl (by simp only[ln, hfs16];omega) (by kernel_rfl) (by intro k f hk hex; simp only [List.mem_cons, List.not_mem_nil, or_false] at hex; rcases hex with rfl | rfl <;> (simp [List.getElem?_append, hfs16] at hk; subst hk; refine ⟨?_, by first | omega | (simp; done) | (simp; omega)⟩; simp [qids, asksB, Op.operands, Call.operands, topId, numS, numI, Wd, hfq17, hfq18]; try omega)) ?_
  try simp only []
  refine DQ.sto1 (m := 6) [] _ (by simp (disch := first|omega|(simp only[ln];omega)) [runDf.eq_def, runF1, runF2, stepF.eq_def, updo.eq_def, hupo.eq_def, opSto1.eq_def]; rfl) rfl (by simp only[ln, hfs16];omega) (by kernel_rfl) (by intro k f hk hex; simp only [List.not_mem_nil] at hex) ?_
  try simp only []
  refine J2 _ ?_
  exact ⟨-x, -y, -w, by simp [nrm, h9], by simp [nrm, h9], by simp [nrm, h9], by simp, by simp, by simp, by simp, by simp (disch := omega), by simp (disch := omega), by simp (disch := omega), by simp (disch := omega), by simp, rfl⟩
 ·try simp only[dc]at h9
  refine .skip ?_
  refine J2 _ ?_
  exact ⟨x, y, w, by simp [nrm, h9], by simp [nrm, h9], by simp [nrm, h9], by simp, by simp, by simp, by simp, by simp (disch := omega), by simp (disch := omega), by simp (disch := omega), by simp (disch := omega), by simp, rfl⟩
end
section
attribute [local simp] idf_numS cells_numS numS_fold l3A l3C
set_option maxHeartbeats 2000000 in
theorem l3Point_fc {k : Nat} (x y w : Int) (bx : Bg k x) (bY : Bg k y) (bw : Bg k w) (hk : k ≤ 68719476736) : FC Try.prog 54 [l3A x y w] (.tup [.agg [.int .u64 (pt3 x y w).x.a, .int .u64 (pt3 x y w).x.b, .int .u64 (pt3 x y w).x.c, .int .u64 (pt3 x y w).x.d, .int .u64 (pt3 x y w).y.a, .int .u64 (pt3 x y w).y.b, .int .u64 (pt3 x y w).y.c, .int .u64 (pt3 x y w).y.d, .int .u64 (pt3 x y w).w.a, .int .u64 (pt3 x y w).w.b, .int .u64 (pt3 x y w).w.c, .int .u64 (pt3 x y w).w.d], .bool (sm x y w)]) := by
 have hs := l3Small_fc bx bY bw hk
 have w1 := l1Wide_fc bx hk
 have w2 := l1Wide_fc bY hk
 have w3 := l1Wide_fc bw hk
 rw [wdT_l] at w1 w2 w3
 unfold W4.l at w1 w2 w3
 refine .b Try.func54 36 (fun nx K hK => ?_)
 refine .q ?_
 refine .sq fun K2 hK2 => ?_
 refine .sq fun K3 hK3 => ?_
 refine .region ?_
 refine .kf 1 hs hb43 ?_
 refine .e ?_
 refine hK3 _ ?_
 refine .c (t := !(sm x y w)) (fun h12 => ?_) (fun h12 => ?_)
 ·try simp only[dc]at h12
  have hb : sm x y w = false := by simpa using h12
  refine .q ?_
  refine .ret ?_
  exact hK _ _ _ _ trivial ((Fin.m).cast (by rw [pt3, hb]; rfl))
 ·try simp only[dc]at h12
  have hb : sm x y w = true := by simpa using h12
  refine .skip ?_
  refine hK2 _ ?_
  refine .sq fun K5 hK5 => ?_
  refine .region ?_
  refine .kf 2 w1 hb56 ?_
  refine .e ?_
  refine hK5 _ ?_
  refine .sq fun K6 hK6 => ?_
  refine .region ?_
  refine .kf 2 w2 hb56 ?_
  refine .e ?_
  refine hK6 _ ?_
  refine .sq fun K7 hK7 => ?_
  refine .region ?_
  refine .kf 2 w3 hb56 ?_
  refine .e ?_
  refine hK7 _ ?_
  refine .q ?_
  refine .ret ?_
  exact hK _ _ _ _ trivial ((Fin.m).cast (by rw [pt3, if_pos hb, hb]))
end
section
attribute [local simp] idf_numS cells_numS numS_fold
theorem l3Spot_fc (x y : Int) (hx1 : -9223372036854775808 ≤ x) (hx2 : x ≤ 9223372036854775807) (hy1 : -9223372036854775808 ≤ y) (hy2 : y ≤ 9223372036854775807) : FC Try.prog 59 [.agg [.int .i64 x, .int .i64 y]] (l3A x y 1) := by
 refine .b Try.func59 11 (fun nx K hK => ?_) (hr := by simp [idfL, idf, l3A, l3C, idf_Wd'])
 refine .q ?_
 refine .sq fun K2 hK2 => ?_
 refine .d 8 ?_
 refine .k 2 (fun fs3 hfs3 => ?_)
 refine .f (l1Int_fc x hx1 hx2) hb21 ?_
 refine .k 2 (fun fs4 hfs4 => ?_)
 refine .f (l1Int_fc y hy1 hy2) hb21 ?_
 refine .f (l1Int_fc 1 (by omega) (by omega)) hb21 ?_
 refine .k 1 (fun fs5 hfs5 => ?_)
 refine .r 8 (by simp only[ln, hfs3, hfs4, hfs5];omega) ?_
 refine hK2 _ ?_
 refine .ret ?_
 exact hK _ _ _ _ trivial ((Fin.m).cast (by rfl))
theorem pointOfS_fc (x y : Int) (hx1 : -9223372036854775808 ≤ x) (hx2 : x ≤ 9223372036854775807) (hy1 : -9223372036854775808 ≤ y) (hy2 : y ≤ 9223372036854775807) : FC Try.prog 35 [.agg [.int .i64 x, .int .i64 y]] (.agg [.int .u64 (pt3 x y 1).x.a, .int .u64 (pt3 x y 1).x.b, .int .u64 (pt3 x y 1).x.c, .int .u64 (pt3 x y 1).x.d, .int .u64 (pt3 x y 1).y.a, .int .u64 (pt3 x y 1).y.b, .int .u64 (pt3 x y 1).y.c, .int .u64 (pt3 x y 1).y.d, .int .u64 (pt3 x y 1).w.a, .int .u64 (pt3 x y 1).w.b, .int .u64 (pt3 x y 1).w.c, .int .u64 (pt3 x y 1).w.d]) := by
 refine .b Try.func35 12 (fun nx K hK => ?_)
 refine .q ?_
 refine .sq fun K2 hK2 => ?_
 refine .region ?_
 refine .kf 1 (l3Spot_fc x y hx1 hx2 hy1 hy2) hb59 ?_
 refine .f (l3Point_fc x y 1 (Bg.i64 hx1 hx2) (Bg.i64 hy1 hy2) (Bg.i64 (n := 1) (by omega) (by omega)) (by omega)) hb54 ?_
 refine .e ?_
 refine hK2 _ ?_
 refine .q ?_
 refine .ret ?_
 exact hK _ _ _ _ trivial (Fin.m)
theorem wideOfS_fc (n : Int) (h1 : -9223372036854775808 ≤ n) (h2 : n ≤ 9223372036854775807) : FC Try.prog 32 [.int .i64 n] (.agg [.int .u64 (W4z n).a, .int .u64 (W4z n).b, .int .u64 (W4z n).c, .int .u64 (W4z n).d]) := by
 have w1 := l1Wide_fc (Bg.i64 h1 h2) (by omega)
 rw [wdT_l] at w1
 unfold W4.l at w1
 refine .b Try.func32 12 (fun nx K hK => ?_)
 refine .q ?_
 refine .sq fun K2 hK2 => ?_
 refine .region ?_
 refine .kf 1 (l1Int_fc n h1 h2) hb21 ?_
 refine .f w1 hb56 ?_
 refine .e ?_
 refine hK2 _ ?_
 refine .q ?_
 refine .ret ?_
 exact hK _ _ _ _ trivial (Fin.m)
end

end Go.Proofs.Ytgeecahbahgjbaa

/- Walks: points made and halved by the reference. -/
namespace Go.Proofs.Ytgeecahbahgjbaa
open Go Go.RowKit
set_option linter.unusedSimpArgs false
set_option linter.unusedVariables false
set_option maxRecDepth 100000
attribute [local simp] szT24 byT24 agT24 unT24 zoT24 szT26 byT26 agT26 flT26 fdT26_0 fdT26_1 fdT26_2 fdT26_3 zoT26 szT28 byT28 agT28 flT28 fdT28_0 fdT28_1 fdT28_2 zoT28

theorem eqW1 (n : Nat) (a a' : Int) : eqW Try.prog (n + 1) 24 [.int .u64 a] [.int .u64 a'] = some (a == a') := by
  unfold eqW; simp only [Try.underlying24]; rfl
theorem eqW4 (a b c d a' b' c' d' : Int) : eqW Try.prog 8 26 [.int .u64 a, .int .u64 b, .int .u64 c, .int .u64 d] [.int .u64 a', .int .u64 b', .int .u64 c', .int .u64 d'] = some ((a == a') && ((b == b') && ((c == c') && ((d == d') && true)))) := by
  have hs : Try.prog.stoodInHeld 26 = false := by kernel_rfl
  have hz : szOf Try.prog 24 = some 1 := by kernel_rfl
  have ha : aggT Try.prog 24 = some false := by kernel_rfl
  unfold eqW
  simp only [Try.underlying26, hs]
  simp [eqF, hz, ha, eqW1]

section
attribute [local simp] idf_numS cells_numS numS_fold wdI
set_option maxHeartbeats 2000000 in
theorem pointMakeS_fc (x y w : W4) (hx : x.ok) (hy : y.ok) (hw : w.ok) : FC Try.prog 29 [.agg [.int .u64 x.a, .int .u64 x.b, .int .u64 x.c, .int .u64 x.d], .agg [.int .u64 y.a, .int .u64 y.b, .int .u64 y.c, .int .u64 y.d], .agg [.int .u64 w.a, .int .u64 w.b, .int .u64 w.c, .int .u64 w.d]] (.tup [.agg [.int .u64 (mkP x.v y.v w.v).x.a, .int .u64 (mkP x.v y.v w.v).x.b, .int .u64 (mkP x.v y.v w.v).x.c, .int .u64 (mkP x.v y.v w.v).x.d, .int .u64 (mkP x.v y.v w.v).y.a, .int .u64 (mkP x.v y.v w.v).y.b, .int .u64 (mkP x.v y.v w.v).y.c, .int .u64 (mkP x.v y.v w.v).y.d, .int .u64 (mkP x.v y.v w.v).w.a, .int .u64 (mkP x.v y.v w.v).w.b, .int .u64 (mkP x.v y.v w.v).w.c, .int .u64 (mkP x.v y.v w.v).w.d], .bool (mkB x.v y.v w.v)]) := by
 have bX := W4.bg hx
 have bY := W4.bg hy
 have bW := W4.bg hw
 refine .b Try.func29 22 (fun nx K hK => ?_)
 refine .q ?_
 refine .sq fun K2 hK2 => ?_
 refine .sq fun K3 hK3 => ?_
 by_cases hz : w.a = 0 ∧ w.b = 0 ∧ w.c = 0 ∧ w.d = 0
 ·obtain ⟨wa, wb, wc, wd⟩ := w
  simp only [] at hz
  obtain ⟨rfl, rfl, rfl, rfl⟩ := hz
  have hv : W4.v ⟨0, 0, 0, 0⟩ = 0 := v_zero
  refine .r ?_ (by simp (disch := first|omega|(simp only[ln];omega)) [eqW4]; rfl)
  refine hK3 _ ?_
  refine .c (fun h10 => ?_) (fun h10 => ?_)
  ·try simp only[dc]at h10
   refine .q ?_
   refine .ret ?_
   exact hK _ _ _ _ trivial ((Fin.m).cast (by rw [mkP, mkB, if_pos hv, if_pos hv]; rfl))
  ·simp at h10
 ·have hne : w.v ≠ 0 := W4.ne hw hz
  refine .r ?_ (by simp (disch := first|omega|(simp only[ln];omega)) [eqW4]; rfl)
  refine hK3 _ ?_
  refine .c (fun h10 => ?_) (fun h10 => ?_)
  ·exact absurd (by simpa [and_assoc] using h10) hz
  ·try simp only[dc]at h10
   have hgp := gcd3_pos (x := x.v) (y := y.v) hne
   refine .skip ?_
   refine hK2 _ ?_
   refine .sq fun K5 hK5 => ?_
   refine .d 10 ?_
   refine .k 1 (fun fs6 hfs6 => ?_) (by simp (disch := first|omega|(simp only[ln];omega)) [runDf.eq_def, runF1, runF2, stepF.eq_def, updo.eq_def, hupo.eq_def, opSto1.eq_def, List.take_succ_cons, List.take_zero, W4.v]; rfl)
   refine .f (l1From_fc x.a x.b x.c x.d hx.1 hx.2.1 hx.2.2.1 hx.2.2.2) hb45 ?_ (ha := by simp (disch := first|omega|(simp only[ln];omega)) [idf_Wd', W4.v])
   refine .k 1 (fun fs7 hfs7 => ?_) (by simp (disch := first|omega|(simp only[ln];omega)) [runDf.eq_def, runF1, runF2, stepF.eq_def, updo.eq_def, hupo.eq_def, opSto1.eq_def, List.take_succ_cons, List.take_zero, W4.v]; rfl)
   refine .f (l1From_fc y.a y.b y.c y.d hy.1 hy.2.1 hy.2.2.1 hy.2.2.2) hb45 ?_ (ha := by simp (disch := first|omega|(simp only[ln];omega)) [idf_Wd', W4.v])
   refine .k 1 (fun fs8 hfs8 => ?_) (by simp (disch := first|omega|(simp only[ln];omega)) [runDf.eq_def, runF1, runF2, stepF.eq_def, updo.eq_def, hupo.eq_def, opSto1.eq_def, List.take_succ_cons, List.take_zero, W4.v]; rfl)
   refine .f (l1From_fc w.a w.b w.c w.d hw.1 hw.2.1 hw.2.2.1 hw.2.2.2) hb45 ?_ (ha := by simp (disch := first|omega|(simp only[ln];omega)) [idf_Wd', W4.v])
   refine .f (l3Make_fc x.v y.v w.v hne bX bY bW (by omega) (by omega)) hb55 ?_ (ha := by simp (disch := first|omega|(simp only[ln];omega)) [idf_Wd', W4.v])
   refine .f (l3Point_fc (nrm w.v x.v / gcd3 x.v y.v w.v) (nrm w.v y.v / gcd3 x.v y.v w.v) (nrm w.v w.v / gcd3 x.v y.v w.v) (bX.nrm.div hgp) (bY.nrm.div hgp) (bW.nrm.div hgp) (by omega)) hb54 ?_ (ha := by simp (disch := first|omega|(simp only[ln];omega)) [idf_Wd', W4.v])
   refine .k 2 (fun fs9 hfs9 => ?_) (by simp (disch := first|omega|(simp only[ln];omega)) [runDf.eq_def, runF1, runF2, stepF.eq_def, updo.eq_def, hupo.eq_def, opSto1.eq_def, List.take_succ_cons, List.take_zero, W4.v]; rfl)
   refine .r 10 (by simp only[ln, hfs6, hfs7, hfs8, hfs9];omega) ?_ (by simp (disch := first|omega|(simp only[ln];omega)) [runDf.eq_def, runF1, runF2, stepF.eq_def, updo.eq_def, hupo.eq_def, opSto1.eq_def, W4.v]; rfl)
   refine hK5 _ ?_
   refine .ret ?_
   exact hK _ _ _ _ trivial ((Fin.m).cast (by rw [mkP, mkB, if_neg hne, if_neg hne]; rfl))
end

end Go.Proofs.Ytgeecahbahgjbaa

/- Walks: drawn numbers. -/
namespace Go.Proofs.Ytgeecahbahgjbaa
open Go Go.RowKit
set_option linter.unusedSimpArgs false
set_option linter.unusedVariables false
set_option maxRecDepth 100000
attribute [local simp] szT3 byT3 agT3 unT3 zoT3 szT5 byT5 agT5 unT5 zoT5 szT22 byT22 agT22 elT22 unT22 zoT22 szT24 byT24 agT24 unT24 zoT24 szT66 byT66 agT66 flT66 fdT66_0 fdT66_1 zoT66

set_option maxHeartbeats 1000000 in
theorem next_ac (l : List Int) (p id : Nat) (H : Heap) (nx : Nat) (dl : Dig 256 l) (hl : l.length ≤ 1048576) (hp : p ≤ l.length) (hH : H id = some (2, [[Wd .u8 l, .int .i64 (p : Int)]])) (hd : ∀ i q, H i = some q → i < nx) : ACall Try.prog 53 [.ptr id 0 0] H nx (fun r H' nx' => (∃ n : Int, r = .int .i64 n ∧ 0 ≤ n ∧ n ≤ 255) ∧ (∃ p' : Nat, p' ≤ l.length ∧ H' = hupd H id (some (2, [[Wd .u8 l, .int .i64 (p' : Int)]]))) ∧ nx ≤ nx') := by
 refine .b Try.func53 32 fun K hK => ?_
 refine .q ?_
 refine .sq fun K2 hK2 => ?_
 refine .sq fun K3 hK3 => ?_
 refine .df 10 ?_ (by simp (disch := first|omega|(simp only[ln];omega)) [runDf.eq_def, runF1, runF2, stepF.eq_def, updo.eq_def, hupo.eq_def, opSto1.eq_def, len_Wd (P := Try.prog) #[22] rfl elT22, hH]; rfl)
 refine hK3 _ ?_
 refine .c (fun h12 => ?_) (fun h12 => ?_)
 ·try simp only[dc]at h12
  refine .q ?_
  refine .ret ?_
  exact hK _ _ _ _ _ trivial (Fin.m) (⟨⟨0, rfl, by omega, by omega⟩, ⟨p, hp, (hupd_id hH).symm⟩, by simp⟩)
 ·try simp only[dc]at h12
  have hlt : p < l.length := by omega
  have gl := dl.gt (by omega) p
  have ep : ((p : Int) + 1 - 1).toNat = p := by omega
  have ep2 : (p : Int) + 1 - 1 = p := by omega
  refine .skip ?_
  refine hK2 _ ?_
  refine .q ?_ (by simp (disch := first|omega|(simp only[ln];omega)) [hH]; rfl)
  refine .sq fun K6 hK6 => ?_
  refine .df 12 ?_ (by simp (disch := first|omega|(simp only[ln];omega)) [runDf.eq_def, runF1, runF2, stepF.eq_def, updo.eq_def, hupo.eq_def, opSto1.eq_def, idx_WdD (P := Try.prog) elT22 szT5, if_pos, hH, ep, ep2, ld_ip agT5]; rfl)
  refine hK6 _ ?_
  refine .ret ?_
  exact hK _ _ _ _ _ trivial (Fin.m) (⟨⟨gt l p, rfl, by omega, by omega⟩, ⟨p + 1, by omega, by simp⟩, by simp; omega⟩)
set_option maxHeartbeats 1000000 in
theorem below_ac (n : Int) (hn0 : 1 < n) (hn1 : n ≤ 65536) (l : List Int) (p id : Nat) (H : Heap) (nx : Nat) (dl : Dig 256 l) (hl : l.length ≤ 1048576) (hp : p ≤ l.length) (hH : H id = some (2, [[Wd .u8 l, .int .i64 (p : Int)]])) (hd : ∀ i q, H i = some q → i < nx) : ACall Try.prog 28 [.ptr id 0 0, .int .i64 n] H nx (fun r H' nx' => (∃ k : Int, r = .int .i64 k ∧ 0 ≤ k ∧ k < n) ∧ (∃ p' : Nat, p' ≤ l.length ∧ H' = hupd H id (some (2, [[Wd .u8 l, .int .i64 (p' : Int)]]))) ∧ nx ≤ nx') := by
 have hnz : n ≠ 0 := by omega
 have tm : ∀ a : Int, 0 ≤ a → a.tmod n = a % n := fun a h => Int.tmod_eq_emod_of_nonneg h
 have em0 : ∀ a : Int, 0 ≤ a % n := fun a => Int.emod_nonneg a hnz
 have em1 : ∀ a : Int, a % n < n := fun a => Int.emod_lt_of_pos a (by omega)
 refine .b Try.func28 24 fun K hK => ?_
 refine .q ?_
 refine .sq fun K2 hK2 => ?_
 refine .q ?_
 refine .c (fun h7 => ?_) (fun h7 => ?_)
 ·simp at h7; omega
 ·try simp only[dc]at h7
  refine .skip ?_
  refine hK2 _ ?_
  refine .sq fun K4 hK4 => ?_
  refine .q ?_
  refine .c (fun h9 => ?_) (fun h9 => ?_)
  ·try simp only[dc]at h9
   refine .sq fun K6 hK6 => ?_
   refine .region ?_
   refine .k 1 ?_ (by simp (disch := first|omega|(simp only[ln];omega)) [List.take_succ_cons, List.take_zero, hnz]; rfl)
   refine AOPS.old fun hold1 => ?_
   refine .a (next_ac l p id _ _ dl hl hp (by simp [hH]) hold1) hb53 ?_ (ha := by simp (disch := first|omega|(simp only[ln];omega)) [idf_Wd', hnz])
   rintro _ _ nx2 ⟨⟨m, rfl, m0, m1⟩, ⟨p2, hp2, rfl⟩, hnx2⟩
   try simp only [] at hnx2
   refine .e ?_ (by simp (disch := first|omega|(simp only[ln];omega)) [hnz]; rfl)
   refine hK6 _ ?_
   refine .ret ?_
   exact hK _ _ _ _ _ trivial (Fin.mk (r := .int .i64 (m.tmod n)) (by simp [aRes, aResL, aRes1])) (⟨⟨_, rfl, by rw [tm m m0]; exact em0 _, by rw [tm m m0]; exact em1 _⟩, ⟨p2, hp2, by simp [hupd_same]⟩, by first | exact hnx2 | (simp at *; omega)⟩)
  ·try simp only[dc]at h9
   refine .skip ?_
   refine hK4 _ ?_
   refine .sq fun K7 hK7 => ?_
   refine .region ?_
   refine .k 1 ?_
   refine AOPS.old fun hold1 => ?_
   refine .a (next_ac l p id _ _ dl hl hp (by simp [hH]) hold1) hb53 ?_
   rintro _ _ nx2 ⟨⟨m, rfl, m0, m1⟩, ⟨p2, hp2, rfl⟩, hnx2⟩
   try simp only [] at hnx2
   refine .e ?_
   refine hK7 _ ?_
   refine .sq fun K8 hK8 => ?_
   refine .region ?_
   refine .k 2 ?_
   refine AOPS.old fun hold2 => ?_
   refine .a (next_ac l p2 id _ _ dl hl hp2 (by simp [hH]) hold2) hb53 ?_
   rintro _ _ nx3 ⟨⟨m2, rfl, m20, m21⟩, ⟨p3, hp3, rfl⟩, hnx3⟩
   try simp only [] at hnx3
   refine .e ?_
   refine hK8 _ ?_
   refine .q ?_ (by simp (disch := first|omega|(simp only[ln];omega)) [hnz]; rfl)
   refine .ret ?_
   exact hK _ _ _ _ _ trivial (Fin.mk (r := .int .i64 ((m * 256 + m2).tmod n)) (by simp [aRes, aResL, aRes1])) (⟨⟨_, rfl, by rw [tm _ (by omega)]; exact em0 _, by rw [tm _ (by omega)]; exact em1 _⟩, ⟨p3, hp3, by simp [hupd_same]⟩, by first | exact Nat.le_trans hnx2 hnx3 | (simp at *; omega)⟩)
set_option maxHeartbeats 1000000 in
theorem once_ac (n : Int) (hn0 : 1 < n) (hn1 : n ≤ 65536) (l : List Int) (p id : Nat) (H : Heap) (nx : Nat) (dl : Dig 256 l) (hl : l.length ≤ 1048576) (hp : p ≤ l.length) (hH : H id = some (2, [[Wd .u8 l, .int .i64 (p : Int)]])) (hd : ∀ i q, H i = some q → i < nx) : ACall Try.prog 31 [.ptr id 0 0, .int .i64 n] H nx (fun r H' nx' => (∃ b : Bool, r = .bool b) ∧ (∃ p' : Nat, p' ≤ l.length ∧ H' = hupd H id (some (2, [[Wd .u8 l, .int .i64 (p' : Int)]]))) ∧ nx ≤ nx') := by
 refine .b Try.func31 11 fun K hK => ?_
 refine .q ?_
 refine .sq fun K2 hK2 => ?_
 refine .region ?_
 refine .k 2 ?_
 refine AOPS.old fun hold2 => ?_
 refine .a (below_ac n hn0 hn1 l p id _ _ dl hl hp (by simp [hH]) hold2) hb28 ?_
 rintro _ _ nx2 ⟨⟨k, rfl, k0, k1⟩, ⟨p2, hp2, rfl⟩, hnx2⟩
 try simp only [] at hnx2
 refine .e ?_
 refine hK2 _ ?_
 refine .ret ?_
 exact hK _ _ _ _ _ trivial (Fin.mk (r := .bool (k == n - 1)) (by simp [aRes, aResL, aRes1])) (⟨⟨_, rfl⟩, ⟨p2, hp2, by simp [hupd_same]⟩, by first | exact hnx2 | (simp at *; omega)⟩)
set_option maxHeartbeats 1000000 in
theorem word_ac (l : List Int) (p id : Nat) (H : Heap) (nx : Nat) (dl : Dig 256 l) (hl : l.length ≤ 1048576) (hp : p ≤ l.length) (hH : H id = some (2, [[Wd .u8 l, .int .i64 (p : Int)]])) (hd : ∀ i q, H i = some q → i < nx) : ACall Try.prog 33 [.ptr id 0 0] H nx (fun r H' nx' => (∃ n : Int, r = .int .u64 n ∧ U64 n) ∧ (∃ p' : Nat, p' ≤ l.length ∧ H' = hupd H id (some (2, [[Wd .u8 l, .int .i64 (p' : Int)]]))) ∧ nx ≤ nx') := by
 refine .b Try.func33 16 fun K hK => ?_
 refine .q ?_
 refine .q ?_
 refine .sq fun K3 hK3 => ?_
 refine .q ?_
 refine .block ?_
 refine .loop (fun N s => ∃ (i p' : Nat) (x : Int), N = 8 - i ∧ i ≤ 8 ∧ p' ≤ l.length ∧ U64 x ∧ s.env 0 = .ptr id 0 0 ∧ s.env 3 = .int .u64 x ∧ s.env 4 = .int .i64 (i : Int) ∧ s.heap = hupd H id (some (2, [[Wd .u8 l, .int .i64 (p' : Int)]])) ∧ nx ≤ s.nx ∧ s.nt = 16) (8) (⟨0, p, 0, by omega, by omega, hp, by unfold U64; omega, by simp, by simp, by simp, by simp [hupd_id hH], by simp, rfl⟩) ?_
 rintro N ⟨e, HH, mm, nt⟩ ⟨i, q, x, rfl, hi, hq, hx, h0, h3, h4, rfl, hm, rfl⟩
 simp only [] at h0 h3 h4 hm
 refine .sq fun K5 hK5 => ?_
 refine .q ?_ (by simp (disch := first|omega|(simp only[ln];omega)) [h4]; rfl)
 refine .c (fun h6 => ?_) (fun h6 => ?_)
 ·try simp only[dc]at h6
  have hi' : i < 8 := by omega
  refine .skip ?_
  refine hK5 _ ?_
  refine .sq fun K7 hK7 => ?_
  refine .block ?_
  refine .region ?_
  refine .k 3 ?_ (by simp (disch := first|omega|(simp only[ln];omega)) [List.take_succ_cons, List.take_zero, h0, h3, IntKind.bits]; rfl)
  refine AOPS.old fun hold3 => ?_
  refine .a (next_ac l q id _ _ dl hl hq (by simp) hold3) hb53 ?_ (ha := by simp (disch := first|omega|(simp only[ln];omega)) [idf_Wd', h0, h3, IntKind.bits])
  rintro _ _ nx2 ⟨⟨m, rfl, m0, m1⟩, ⟨p2, hp2, rfl⟩, hnx2⟩
  try simp only [] at hnx2
  have ox := or_u64 (wrap_U64 (x * 2 ^ 8)) (show U64 m by unfold U64; omega)
  try simp only [] at ox
  refine .e ?_ (by simp (disch := first|omega|(simp only[ln];omega)) [h0, h3, IntKind.bits]; rfl)
  refine hK7 _ ?_
  refine .r ?_ (by simp (disch := first|omega|(simp only[ln];omega)) [h4]; rfl)
  refine ⟨8 - (i + 1), by omega, i + 1, p2, _, rfl, by omega, hp2, ox, by simp [h0], by simp [IntKind.bits], by simp (disch := omega) [h4], by simp [hupd_same], by simp at *; omega, rfl⟩
 ·try simp only[dc]at h6
  refine .exit ?_
  refine hK3 _ ?_
  refine .q ?_ (by simp (disch := first|omega|(simp only[ln];omega)) [h3]; rfl)
  refine .ret ?_
  exact hK _ _ _ _ _ trivial (Fin.mk (r := .int .u64 x) (by simp [aRes, aResL, aRes1])) (⟨⟨x, rfl, hx⟩, ⟨q, hq, rfl⟩, hm⟩)

end Go.Proofs.Ytgeecahbahgjbaa

/- Walks: drawn numbers near others; drawn spots. -/
namespace Go.Proofs.Ytgeecahbahgjbaa
open Go Go.RowKit
set_option linter.unusedSimpArgs false
set_option linter.unusedVariables false
set_option maxRecDepth 100000
attribute [local simp] szT2 byT2 agT2 unT2 zoT2 szT3 byT3 agT3 unT3 zoT3 szT24 byT24 agT24 unT24 zoT24 szT75 byT75 agT75 flT75 fdT75_0 fdT75_1 zoT75

set_option maxHeartbeats 1000000 in
theorem near_ac (a b : Int) (ha : -1152921504606846976 ≤ a) (hab : a ≤ b) (hb : b ≤ 1152921504606846976) (l : List Int) (p id : Nat) (H : Heap) (nx : Nat) (dl : Dig 256 l) (hl : l.length ≤ 1048576) (hp : p ≤ l.length) (hH : H id = some (2, [[Wd .u8 l, .int .i64 (p : Int)]])) (hd : ∀ i q, H i = some q → i < nx) : ACall Try.prog 34 [.ptr id 0 0, .int .i64 a, .int .i64 b] H nx (fun r H' nx' => (∃ k : Int, r = .int .i64 k ∧ a ≤ k ∧ k ≤ b) ∧ (∃ p' : Nat, p' ≤ l.length ∧ H' = hupd H id (some (2, [[Wd .u8 l, .int .i64 (p' : Int)]]))) ∧ nx ≤ nx') := by
 have hid := hd id _ hH
 refine .b Try.func34 31 fun K hK => ?_
 refine .q ?_
 refine .sq fun K2 hK2 => ?_
 refine .sq fun K3 hK3 => ?_
 refine .region ?_
 refine .k 1 ?_
 refine AOPS.old fun hold1 => ?_
 refine .a (below_ac 8 (by omega) (by omega) l p id _ _ dl hl hp (by simp [hH]) hold1) hb28 ?_
 rintro _ _ nx2 ⟨⟨k, rfl, k0, k1⟩, ⟨p2, hp2, rfl⟩, hnx2⟩
 try simp only [] at hnx2
 refine .nil ?_
 refine hK3 _ ?_
 refine .block ?_
 refine .q ?_
 refine .c (fun h9 => ?_) (fun h9 => ?_)
 ·try simp only[dc]at h9
  refine .q ?_
  refine .ret ?_
  exact hK _ _ _ _ _ trivial (Fin.mk (r := .int .i64 a) (by simp [aRes, aResL, aRes1])) (⟨⟨_, rfl, by omega, by omega⟩, ⟨p2, hp2, by simp [hupd_same]⟩, by first | exact hnx2 | (simp at *; omega)⟩)
 ·try simp only[dc]at h9
  refine .q ?_
  refine .c (fun h12 => ?_) (fun h12 => ?_)
  ·try simp only[dc]at h12
   refine .q ?_
   refine .ret ?_
   exact hK _ _ _ _ _ trivial (Fin.mk (r := .int .i64 b) (by simp [aRes, aResL, aRes1])) (⟨⟨_, rfl, by omega, by omega⟩, ⟨p2, hp2, by simp [hupd_same]⟩, by first | exact hnx2 | (simp at *; omega)⟩)
  ·try simp only[dc]at h12
   refine .skip ?_
   refine hK2 _ ?_
   refine .sq fun K8 hK8 => ?_
   refine .q ?_
   refine .c (fun h17 => ?_) (fun h17 => ?_)
   ·simp at h17; omega
   ·try simp only[dc]at h17
    refine .skip ?_
    refine hK8 _ ?_
    refine .sq fun K10 hK10 => ?_
    have hdz : b - a + 1 ≠ 0 := by omega
    have cw : IntKind.u64.wrap (b - a + 1) = b - a + 1 := wrap_u64s (by omega) (by omega)
    have tmw : ∀ w : Int, 0 ≤ w → (w / 2).tmod (b - a + 1) = w / 2 % (b - a + 1) := fun w h => Int.tmod_eq_emod_of_nonneg (by omega)
    have sw : ∀ w : Int, 0 ≤ w → IntKind.i64.wrap (w / 2 % (b - a + 1)) = w / 2 % (b - a + 1) := fun w h => by
      have e0 := Int.emod_nonneg (w / 2) hdz
      have e1 := Int.emod_lt_of_pos (w / 2) (show 0 < b - a + 1 by omega)
      exact wrap_i64s (by omega) (by omega)
    refine .region ?_
    refine .k 2 ?_ (by simp (disch := first|omega|(simp only[ln];omega)) [List.take_succ_cons, List.take_zero, IntKind.bits, Int.fdiv_eq_ediv_of_nonneg, hdz, tmw, cw, sw]; rfl)
    refine AOPS.old fun hold2 => ?_
    refine .a (word_ac l p2 id _ _ dl hl hp2 (by simp) hold2) hb33 ?_ (ha := by simp (disch := first|omega|(simp only[ln];omega)) [idf_Wd', IntKind.bits, Int.fdiv_eq_ediv_of_nonneg, hdz, tmw, cw, sw])
    rintro _ _ nx3 ⟨⟨w, rfl, hw0, hw1⟩, ⟨p3, hp3, rfl⟩, hnx3⟩
    have e0 := Int.emod_nonneg (w / 2) hdz
    have e1 := Int.emod_lt_of_pos (w / 2) (show 0 < b - a + 1 by omega)
    try simp only [] at hnx3
    refine .e ?_ (by simp (disch := first|omega|(simp only[ln];omega)) [IntKind.bits, Int.fdiv_eq_ediv_of_nonneg, hdz, tmw, cw, sw]; rfl)
    refine hK10 _ ?_
    refine .ret ?_
    exact hK _ _ _ _ _ trivial (Fin.mk (r := .int .i64 (a + w / 2 % (b - a + 1))) (by simp [aRes, aResL, aRes1])) (⟨⟨_, rfl, by omega, by omega⟩, ⟨p3, hp3, by simp [hupd_same]⟩, by first | exact Nat.le_trans hnx2 hnx3 | (simp at *; omega)⟩)
set_option maxHeartbeats 1000000 in
theorem spot_ac (l : List Int) (p id : Nat) (H : Heap) (nx : Nat) (dl : Dig 256 l) (hl : l.length ≤ 1048576) (hp : p ≤ l.length) (hH : H id = some (2, [[Wd .u8 l, .int .i64 (p : Int)]])) (hd : ∀ i q, H i = some q → i < nx) : ACall Try.prog 36 [.ptr id 0 0] H nx (fun r H' nx' => (∃ x y : Int, r = .agg [.int .i64 x, .int .i64 y] ∧ -6 ≤ x ∧ x ≤ 6 ∧ -6 ≤ y ∧ y ≤ 6) ∧ (∃ p' : Nat, p' ≤ l.length ∧ H' = hupd H id (some (2, [[Wd .u8 l, .int .i64 (p' : Int)]]))) ∧ nx ≤ nx') := by
 have hid := hd id _ hH
 refine .b Try.func36 8 fun K hK => ?_
 refine .q ?_
 refine .sq fun K2 hK2 => ?_
 refine .region ?_
 refine .k 1 ?_ (by simp (disch := first|omega|(simp only[ln];omega)) [List.take_succ_cons, List.take_zero, hH]; rfl)
 refine AOPS.old fun hold1 => ?_
 refine .a (near_ac (-6) (6) (by omega) (by omega) (by omega) l p id _ _ dl hl hp (by simp (disch := omega) [hH]) hold1) hb34 ?_ (ha := by simp (disch := first|omega|(simp only[ln];omega)) [idf_Wd', hH])
 rintro _ _ nx2 ⟨⟨x, rfl, x0, x1⟩, ⟨p2, hp2, rfl⟩, hnx2⟩
 try simp only [] at hnx2
 refine .k 1 ?_ (by simp (disch := first|omega|(simp only[ln];omega)) [List.take_succ_cons, List.take_zero, hH]; rfl)
 refine AOPS.old fun hold3 => ?_
 refine .a (near_ac (-6) (6) (by omega) (by omega) (by omega) l p2 id _ _ dl hl hp2 (by simp (disch := omega) [hH]) hold3) hb34 ?_ (ha := by simp (disch := first|omega|(simp only[ln];omega)) [idf_Wd', hH])
 rintro _ _ nx3 ⟨⟨y, rfl, y0, y1⟩, ⟨p3, hp3, rfl⟩, hnx3⟩
 try simp only [] at hnx3
 refine .e ?_ (by simp (disch := first|omega|(simp only[ln];omega)) [hH]; rfl)
 refine hK2 _ ?_
 refine .ret ?_
 exact hK _ _ _ _ _ trivial ((Fin.mk (r := .agg [.int .i64 x, .int .i64 y]) (by simp (disch := omega) [aRes, aResL, aRes1])).restr (fun i => decide (i < nx))) (⟨⟨x, y, rfl, x0, x1, y0, y1⟩, ⟨p3, hp3, by simp (disch := first | omega | (simp; done) | (simp; omega)) [hrestr_in, hrestr_out, hrestr_all hd, hupd_same]⟩, by first | omega | (simp at *; omega)⟩)

end Go.Proofs.Ytgeecahbahgjbaa

/- Walks: drawn numbers in four words. -/
namespace Go.Proofs.Ytgeecahbahgjbaa
open Go Go.RowKit
set_option linter.unusedSimpArgs false
set_option linter.unusedVariables false
set_option maxRecDepth 100000
attribute [local simp] szT2 byT2 agT2 unT2 zoT2 szT3 byT3 agT3 unT3 zoT3 szT24 byT24 agT24 unT24 zoT24 szT26 byT26 agT26 flT26 fdT26_0 fdT26_1 fdT26_2 fdT26_3 zoT26 szT44 byT44 agT44 elT44 unT44 zoT44 szT71 byT71 agT71 unT71 zoT71 szT86 byT86 agT86 unT86 zoT86 szT98 byT98 agT98 elT98 unT98 zoT98 szT99 byT99 agT99 elT99 unT99 zoT99

section
attribute [local simp] idf_numS cells_numS numS_fold
set_option maxHeartbeats 4000000 in
theorem wide_ac (l : List Int) (p id : Nat) (H : Heap) (nx : Nat) (dl : Dig 256 l) (hl : l.length ≤ 1048576) (hp : p ≤ l.length) (hH : H id = some (2, [[Wd .u8 l, .int .i64 (p : Int)]])) (hd : ∀ i q, H i = some q → i < nx) : ACall Try.prog 30 [.ptr id 0 0] H nx (fun r H' nx' => (∃ x : W4, r = .agg [.int .u64 (x).a, .int .u64 (x).b, .int .u64 (x).c, .int .u64 (x).d] ∧ x.ok) ∧ (∃ p' : Nat, p' ≤ l.length ∧ H' = hupd H id (some (2, [[Wd .u8 l, .int .i64 (p' : Int)]]))) ∧ nx ≤ nx') := by
 have hid := hd id _ hH
 have t7l : tab7.length = 7 := rfl
 have hTl : (tab6.map W4.l).length = 6 := rfl
 obtain ⟨T, hT0⟩ : ∃ T, List.map W4.l tab6 = T := ⟨_, rfl⟩
 have hTx := gt6_get
 rw [hT0] at hTl hTx
 have hTy : ∀ (k : Nat) (h : k < T.length), T[k] = [.int .u64 (gt6 k).a, .int .u64 (gt6 k).b, .int .u64 (gt6 k).c, .int .u64 (gt6 k).d] := fun k h => by
   have := hTx k (by omega)
   rw [List.getElem?_eq_getElem h] at this
   simpa using this
 clear hTx
 refine .b Try.func30 85 fun K hK => ?_
 refine .q ?_
 refine .sq fun K2 hK2 => ?_
 refine .sq fun K3 hK3 => ?_
 refine .region ?_
 refine .k 1 ?_ (by simp (disch := first|omega|(simp only[ln];omega)) [List.take_succ_cons, List.take_zero, hH]; rfl)
 refine AOPS.old fun hold1 => ?_
 refine .a (below_ac 9 (by omega) (by omega) l p id _ _ dl hl hp (by simp (disch := omega) [hH]) hold1) hb28 ?_ (ha := by simp (disch := first|omega|(simp only[ln];omega)) [idf_Wd', hH])
 rintro _ _ nx2 ⟨⟨k, rfl, k0, k1⟩, ⟨p2, hp2, rfl⟩, hnx2⟩
 try simp only [] at hnx2
 clear hold1
 refine .nil ?_
 refine hK3 _ ?_
 refine .block ?_
 refine .q ?_
 refine .c (t := k == 0) (fun h9 => ?_) (fun h9 => ?_)
 ·try simp only[dc]at h9
  refine .sq fun K5 hK5 => ?_
  refine .region ?_
  refine .k 2 ?_ (by simp (disch := first|omega|(simp only[ln];omega)) [List.take_succ_cons, List.take_zero, idx_WdD (P := Try.prog) elT98 szT2, if_pos, t7l]; rfl)
  refine AOPS.frz1 11 nx2 1 (wd .i64 tab7) (Wd .i64 tab7) (by simp; rfl) (by simp; first | exact fz_wd rfl | exact isl_take_wd (by decide)) ?_
  refine AOPS.old fun hold2 => ?_
  refine .a (below_ac 7 (by omega) (by omega) l p2 id _ _ dl hl hp2 (by simp (disch := omega) [hH]) hold2) hb28 ?_ (ha := by simp (disch := first|omega|(simp only[ln];omega)) [idf_Wd', idx_WdD (P := Try.prog) elT98 szT2, if_pos, t7l])
  rintro _ _ nx3 ⟨⟨k7, rfl, k70, k71⟩, ⟨p3, hp3, rfl⟩, hnx3⟩
  try simp only [] at hnx3
  clear hold2
  have hk7 : k7.toNat < 7 := by omega
  refine .kf 2 (wideOfS_fc (gt tab7 k7.toNat) (tab7_b _).1 (tab7_b _).2) hb32 ?_ (by simp (disch := first|omega|(simp only[ln];omega)) [List.take_succ_cons, List.take_zero, idx_WdD (P := Try.prog) elT98 szT2, if_pos, t7l]; rfl) (ha := by simp (disch := first|omega|(simp only[ln];omega)) [idf_Wd', idx_WdD (P := Try.prog) elT98 szT2, if_pos, t7l])
  refine .e ?_ (by simp (disch := first|omega|(simp only[ln];omega)) [idx_WdD (P := Try.prog) elT98 szT2, if_pos, t7l]; rfl)
  refine hK5 _ ?_
  refine .ret ?_
  exact hK _ _ _ _ _ trivial ((Fin.mk (r := .agg [.int .u64 (W4z (gt tab7 k7.toNat)).a, .int .u64 (W4z (gt tab7 k7.toNat)).b, .int .u64 (W4z (gt tab7 k7.toNat)).c, .int .u64 (W4z (gt tab7 k7.toNat)).d]) (by simp (disch := omega) [aRes, aResL, aRes1])).restr (fun i => decide (i < nx))) (⟨⟨W4z (gt tab7 k7.toNat), rfl, W4z_ok _⟩, ⟨p3, hp3, by simp (disch := first | omega | (simp; done) | (simp; omega)) [hrestr_in, hrestr_out, hrestr_all hd, hupd_same]⟩, by first | omega | (simp at *; omega)⟩)
 ·try simp only[dc]at h9
  refine .q ?_
  refine .c (t := k == 1) (fun h17 => ?_) (fun h17 => ?_)
  ·try simp only[dc]at h17
   refine .sq fun K7 hK7 => ?_
   refine .region ?_
   refine .k 8 ?_ (by simp (disch := first|omega|(simp only[ln];omega)) [List.take_succ_cons, List.take_zero, if_pos, hTl, hTy]; rfl)
   refine AOPS.frz1 25 nx2 4 T (.isl T) (by simp [← hT0, tab6, W4.l]) (by simp; rw [← hT0]; exact fz_fill W4.l tab6 rfl) ?_
   refine AOPS.old fun hold8 => ?_
   refine .a (below_ac 6 (by omega) (by omega) l p2 id _ _ dl hl hp2 (by simp (disch := omega) [hH]) hold8) hb28 ?_ (ha := by simp (disch := first|omega|(simp only[ln];omega)) [idf_Wd', if_pos, hTl, hTy])
   rintro _ _ nx3 ⟨⟨k6, rfl, k60, k61⟩, ⟨p3, hp3, rfl⟩, hnx3⟩
   try simp only [] at hnx3
   clear hold8
   have hk6 : k6.toNat < 6 := by omega
   refine .e ?_ (by simp (disch := first|omega|(simp only[ln];omega)) [if_pos, hTl, hTy]; rfl)
   refine hK7 _ ?_
   refine .ret ?_
   exact hK _ _ _ _ _ trivial ((Fin.mk (r := .agg [.int .u64 (gt6 k6.toNat).a, .int .u64 (gt6 k6.toNat).b, .int .u64 (gt6 k6.toNat).c, .int .u64 (gt6 k6.toNat).d]) (by simp (disch := omega) [aRes, aResL, aRes1])).restr (fun i => decide (i < nx))) (⟨⟨gt6 k6.toNat, rfl, gt6_ok _⟩, ⟨p3, hp3, by simp (disch := first | omega | (simp; done) | (simp; omega)) [hrestr_in, hrestr_out, hrestr_all hd, hupd_same]⟩, by first | omega | (simp at *; omega)⟩)
  ·try simp only[dc]at h17
   refine .q ?_
   refine .c (t := k == 2) (fun h30 => ?_) (fun h30 => ?_)
   ·try simp only[dc]at h30
    refine .sq fun K9 hK9 => ?_
    refine .region ?_
    refine .k 1 ?_
    refine AOPS.old fun hold1 => ?_
    refine .a (once_ac 2 (by omega) (by omega) l p2 id _ _ dl hl hp2 (by simp (disch := omega) [hH]) hold1) hb31 ?_
    rintro _ _ nx3 ⟨⟨b, rfl⟩, ⟨p3, hp3, rfl⟩, hnx3⟩
    try simp only [] at hnx3
    clear hold1
    refine .k 2 ?_
    refine AOPS.frz1 35 nx3 1 (wd .u32 [1]) (Wd .u32 [1]) (by simp) (by simp; first | exact fz_wd rfl | exact isl_take_wd (by simp)) ?_
    refine AOPS.old fun hold4 => ?_
    refine .a (below_ac 255 (by omega) (by omega) l p3 id _ _ dl hl hp3 (by simp (disch := omega) [hH]) hold4) hb28 ?_
    rintro _ _ nx4 ⟨⟨k8, rfl, k80, k81⟩, ⟨p4, hp4, rfl⟩, hnx4⟩
    try simp only [] at hnx4
    clear hold4
    obtain ⟨K8, rfl⟩ := Int.eq_ofNat_of_zero_le k80
    have hL := l1LeftI 1 K8 (by omega) (by rw [show ((1 : Nat) : Int) = 1 from rfl, dg_one]; simp)
    rw [show ((1 : Nat) : Int) = 1 from rfl, dg_one] at hL
    have bP := bg_pow K8 (by omega) b
    have bP0 := bg_pow K8 (by omega) false
    have hT := l1Trim_fc b (dg ((1 * 2 ^ K8 : Nat) : Int)) (by have := bP0.len32; rw [sg_false] at this; omega) (dg_dig _)
    rw [dg_val, Int.natAbs_natCast] at hT
    have hWd := l1Wide_fc bP (by omega)
    rw [wdT_l] at hWd
    unfold W4.l at hWd
    refine .f hL hb57 ?_
    refine .f hT hb46 ?_
    refine .f hWd hb56 ?_
    refine .e ?_
    refine hK9 _ ?_
    refine .q ?_
    refine .ret ?_
    exact hK _ _ _ _ _ trivial ((Fin.mk (r := .agg [.int .u64 (W4z (sg b ((1 * 2 ^ K8 : Nat) : Int))).a, .int .u64 (W4z (sg b ((1 * 2 ^ K8 : Nat) : Int))).b, .int .u64 (W4z (sg b ((1 * 2 ^ K8 : Nat) : Int))).c, .int .u64 (W4z (sg b ((1 * 2 ^ K8 : Nat) : Int))).d]) (by simp (disch := omega) [aRes, aResL, aRes1])).restr (fun i => decide (i < nx))) (⟨⟨W4z (sg b ((1 * 2 ^ K8 : Nat) : Int)), rfl, W4z_ok _⟩, ⟨p4, hp4, by simp (disch := first | omega | (simp; done) | (simp; omega)) [hrestr_in, hrestr_out, hrestr_all hd, hupd_same]⟩, by first | omega | (simp at *; omega)⟩)
   ·try simp only[dc]at h30
    refine .q ?_
    refine .c (t := k == 3) (fun h44 => ?_) (fun h44 => ?_)
    ·try simp only[dc]at h44
     refine .sq fun K12 hK12 => ?_
     refine .region ?_
     refine .k 1 ?_
     refine AOPS.old fun hold1 => ?_
     refine .a (word_ac l p2 id _ _ dl hl hp2 (by simp (disch := omega) [hH]) hold1) hb33 ?_
     rintro _ _ nx3 ⟨⟨wa, rfl, wau⟩, ⟨p3, hp3, rfl⟩, hnx3⟩
     try simp only [] at hnx3
     clear hold1
     refine .k 1 ?_
     refine AOPS.old fun hold3 => ?_
     refine .a (word_ac l p3 id _ _ dl hl hp3 (by simp (disch := omega) [hH]) hold3) hb33 ?_
     rintro _ _ nx4 ⟨⟨wb, rfl, wbu⟩, ⟨p4, hp4, rfl⟩, hnx4⟩
     try simp only [] at hnx4
     clear hold3
     refine .k 1 ?_
     refine AOPS.old fun hold5 => ?_
     refine .a (word_ac l p4 id _ _ dl hl hp4 (by simp (disch := omega) [hH]) hold5) hb33 ?_
     rintro _ _ nx5 ⟨⟨wc, rfl, wcu⟩, ⟨p5, hp5, rfl⟩, hnx5⟩
     try simp only [] at hnx5
     clear hold5
     refine .k 1 ?_
     refine AOPS.old fun hold7 => ?_
     refine .a (word_ac l p5 id _ _ dl hl hp5 (by simp (disch := omega) [hH]) hold7) hb33 ?_
     rintro _ _ nx6 ⟨⟨wd, rfl, wdu⟩, ⟨p6, hp6, rfl⟩, hnx6⟩
     try simp only [] at hnx6
     clear hold7
     refine .e ?_
     refine hK12 _ ?_
     refine .ret ?_
     exact hK _ _ _ _ _ trivial ((Fin.mk (r := .agg [.int .u64 (⟨wa, wb, wc, wd⟩ : W4).a, .int .u64 (⟨wa, wb, wc, wd⟩ : W4).b, .int .u64 (⟨wa, wb, wc, wd⟩ : W4).c, .int .u64 (⟨wa, wb, wc, wd⟩ : W4).d]) (by simp (disch := omega) [aRes, aResL, aRes1])).restr (fun i => decide (i < nx))) (⟨⟨⟨wa, wb, wc, wd⟩, rfl, ⟨wau, wbu, wcu, wdu⟩⟩, ⟨p6, hp6, by simp (disch := first | omega | (simp; done) | (simp; omega)) [hrestr_in, hrestr_out, hrestr_all hd, hupd_same]⟩, by first | omega | (simp at *; omega)⟩)
    ·try simp only[dc]at h44
     refine .q ?_
     refine .c (t := k == 4) (fun h55 => ?_) (fun h55 => ?_)
     ·try simp only[dc]at h55
      refine .sq fun K14 hK14 => ?_
      refine .region ?_
      refine .k 1 ?_ (by simp (disch := first|omega|(simp only[ln];omega)) [List.take_succ_cons, List.take_zero, IntKind.bits]; rfl)
      refine AOPS.old fun hold1 => ?_
      refine .a (word_ac l p2 id _ _ dl hl hp2 (by simp (disch := omega) [hH]) hold1) hb33 ?_ (ha := by simp (disch := first|omega|(simp only[ln];omega)) [idf_Wd', IntKind.bits])
      rintro _ _ nx3 ⟨⟨wa, rfl, wau⟩, ⟨p3, hp3, rfl⟩, hnx3⟩
      try simp only [] at hnx3
      clear hold1
      refine .k 1 ?_ (by simp (disch := first|omega|(simp only[ln];omega)) [List.take_succ_cons, List.take_zero, IntKind.bits]; rfl)
      refine AOPS.old fun hold3 => ?_
      refine .a (below_ac 64 (by omega) (by omega) l p3 id _ _ dl hl hp3 (by simp (disch := omega) [hH]) hold3) hb28 ?_ (ha := by simp (disch := first|omega|(simp only[ln];omega)) [idf_Wd', IntKind.bits])
      rintro _ _ nx4 ⟨⟨k9, rfl, k90, k91⟩, ⟨p4, hp4, rfl⟩, hnx4⟩
      try simp only [] at hnx4
      clear hold3
      obtain ⟨K9, rfl⟩ := Int.eq_ofNat_of_zero_le k90
      have us := shr_U64 wau K9
      refine .k 3 ?_ (by simp (disch := first|omega|(simp only[ln];omega)) [List.take_succ_cons, List.take_zero, IntKind.bits]; rfl)
      refine AOPS.old fun hold7 => ?_
      refine .a (word_ac l p4 id _ _ dl hl hp4 (by simp (disch := omega) [hH]) hold7) hb33 ?_ (ha := by simp (disch := first|omega|(simp only[ln];omega)) [idf_Wd', IntKind.bits])
      rintro _ _ nx5 ⟨⟨wb, rfl, wbu⟩, ⟨p5, hp5, rfl⟩, hnx5⟩
      try simp only [] at hnx5
      clear hold7
      refine .e ?_ (by simp (disch := first|omega|(simp only[ln];omega)) [IntKind.bits]; rfl)
      refine hK14 _ ?_
      refine .ret ?_
      exact hK _ _ _ _ _ trivial ((Fin.mk (r := .agg [.int .u64 (⟨0, 0, wa.fdiv (2 ^ K9), wb⟩ : W4).a, .int .u64 (⟨0, 0, wa.fdiv (2 ^ K9), wb⟩ : W4).b, .int .u64 (⟨0, 0, wa.fdiv (2 ^ K9), wb⟩ : W4).c, .int .u64 (⟨0, 0, wa.fdiv (2 ^ K9), wb⟩ : W4).d]) (by simp (disch := omega) [aRes, aResL, aRes1])).restr (fun i => decide (i < nx))) (⟨⟨⟨0, 0, wa.fdiv (2 ^ K9), wb⟩, rfl, ⟨by unfold U64; simp, by unfold U64; simp, us, wbu⟩⟩, ⟨p5, hp5, by simp (disch := first | omega | (simp; done) | (simp; omega)) [hrestr_in, hrestr_out, hrestr_all hd, hupd_same]⟩, by first | omega | (simp at *; omega)⟩)
     ·try simp only[dc]at h55
      refine .q ?_
      refine .c (t := k == 5) (fun h66 => ?_) (fun h66 => ?_)
      ·try simp only[dc]at h66
       refine .sq fun K16 hK16 => ?_
       refine .region ?_
       refine .k 1 ?_
       refine AOPS.old fun hold1 => ?_
       refine .a (word_ac l p2 id _ _ dl hl hp2 (by simp (disch := omega) [hH]) hold1) hb33 ?_
       rintro _ _ nx3 ⟨⟨wa, rfl, wau⟩, ⟨p3, hp3, rfl⟩, hnx3⟩
       try simp only [] at hnx3
       clear hold1
       have ia := wrap_I64 wa
       refine .kf 1 (l1Int_fc (IntKind.i64.wrap wa) ia.1 ia.2) hb21 ?_
       refine .k 1 ?_
       refine AOPS.old fun hold5 => ?_
       refine .a (word_ac l p3 id _ _ dl hl hp3 (by simp (disch := omega) [hH]) hold5) hb33 ?_
       rintro _ _ nx4 ⟨⟨wb, rfl, wbu⟩, ⟨p4, hp4, rfl⟩, hnx4⟩
       try simp only [] at hnx4
       clear hold5
       have ib := wrap_I64 wb
       have bAB := (Bg.i64 ia.1 ia.2).mul (Bg.i64 ib.1 ib.2)
       have hWd := l1Wide_fc bAB (by omega)
       rw [wdT_l] at hWd
       unfold W4.l at hWd
       refine .kf 1 (l1Int_fc (IntKind.i64.wrap wb) ib.1 ib.2) hb21 ?_
       refine .f (l1Mul_fc (Bg.i64 ia.1 ia.2) (Bg.i64 ib.1 ib.2) (by omega) (by omega)) hb58 ?_
       refine .f hWd hb56 ?_
       refine .e ?_
       refine hK16 _ ?_
       refine .q ?_
       refine .ret ?_
       exact hK _ _ _ _ _ trivial ((Fin.mk (r := .agg [.int .u64 (W4z (IntKind.i64.wrap wa * IntKind.i64.wrap wb)).a, .int .u64 (W4z (IntKind.i64.wrap wa * IntKind.i64.wrap wb)).b, .int .u64 (W4z (IntKind.i64.wrap wa * IntKind.i64.wrap wb)).c, .int .u64 (W4z (IntKind.i64.wrap wa * IntKind.i64.wrap wb)).d]) (by simp (disch := omega) [aRes, aResL, aRes1])).restr (fun i => decide (i < nx))) (⟨⟨W4z (IntKind.i64.wrap wa * IntKind.i64.wrap wb), rfl, W4z_ok _⟩, ⟨p4, hp4, by simp (disch := first | omega | (simp; done) | (simp; omega)) [hrestr_in, hrestr_out, hrestr_all hd, hupd_same]⟩, by first | omega | (simp at *; omega)⟩)
      ·try simp only[dc]at h66
       refine .skip ?_
       refine hK2 _ ?_
       refine .sq fun K18 hK18 => ?_
       refine .region ?_
       refine .k 1 ?_
       refine AOPS.old fun hold1 => ?_
       refine .a (near_ac (-60) (60) (by omega) (by omega) (by omega) l p2 id _ _ dl hl hp2 (by simp (disch := omega) [hH]) hold1) hb34 ?_
       rintro _ _ nx3 ⟨⟨kn, rfl, kn0, kn1⟩, ⟨p3, hp3, rfl⟩, hnx3⟩
       try simp only [] at hnx3
       clear hold1
       refine .f (wideOfS_fc kn (by omega) (by omega)) hb32 ?_
       refine .e ?_
       refine hK18 _ ?_
       refine .ret ?_
       exact hK _ _ _ _ _ trivial ((Fin.mk (r := .agg [.int .u64 (W4z kn).a, .int .u64 (W4z kn).b, .int .u64 (W4z kn).c, .int .u64 (W4z kn).d]) (by simp (disch := omega) [aRes, aResL, aRes1])).restr (fun i => decide (i < nx))) (⟨⟨W4z kn, rfl, W4z_ok _⟩, ⟨p3, hp3, by simp (disch := first | omega | (simp; done) | (simp; omega)) [hrestr_in, hrestr_out, hrestr_all hd, hupd_same]⟩, by first | omega | (simp at *; omega)⟩)
end

end Go.Proofs.Ytgeecahbahgjbaa

/- Walks: drawn points. -/
namespace Go.Proofs.Ytgeecahbahgjbaa
open Go Go.RowKit
set_option linter.unusedSimpArgs false
set_option linter.unusedVariables false
set_option maxRecDepth 100000
attribute [local simp] szT2 byT2 agT2 unT2 zoT2 szT3 byT3 agT3 unT3 zoT3 szT22 byT22 agT22 elT22 unT22 zoT22 szT24 byT24 agT24 unT24 zoT24 szT26 byT26 agT26 flT26 fdT26_0 fdT26_1 fdT26_2 fdT26_3 zoT26 szT28 byT28 agT28 flT28 fdT28_0 fdT28_1 fdT28_2 zoT28 szT66 byT66 agT66 flT66 fdT66_0 fdT66_1 zoT66 szT75 byT75 agT75 flT75 fdT75_0 fdT75_1 zoT75

set_option maxHeartbeats 8000000 in
theorem point_ac (l : List Int) (p id : Nat) (H : Heap) (nx : Nat) (dl : Dig 256 l) (hl : l.length ≤ 1048576) (hp : p ≤ l.length) (hH : H id = some (2, [[Wd .u8 l, .int .i64 (p : Int)]])) (hd : ∀ i q, H i = some q → i < nx) : ACall Try.prog 12 [.ptr id 0 0] H nx (fun r H' nx' => (∃ x : Pt, r = .agg [.int .u64 (x).x.a, .int .u64 (x).x.b, .int .u64 (x).x.c, .int .u64 (x).x.d, .int .u64 (x).y.a, .int .u64 (x).y.b, .int .u64 (x).y.c, .int .u64 (x).y.d, .int .u64 (x).w.a, .int .u64 (x).w.b, .int .u64 (x).w.c, .int .u64 (x).w.d] ∧ x.ok) ∧ (∃ p' : Nat, p' ≤ l.length ∧ H' = hupd H id (some (2, [[Wd .u8 l, .int .i64 (p' : Int)]]))) ∧ nx ≤ nx') := by
 have hid := hd id _ hH
 have hfd : ∀ x : Int, x.fdiv 2 = x / 2 := fun x => Int.fdiv_eq_ediv_of_nonneg _ (by omega)
 refine .b Try.func12 84 fun K hK => ?_
 refine .q ?_
 refine .sq fun K2 hK2 => ?_
 refine .sq fun K3 hK3 => ?_
 refine .region ?_
 refine .k 1 ?_ (by simp (disch := first|omega|(simp only[ln];omega)) [List.take_succ_cons, List.take_zero, hH]; rfl)
 refine AOPS.old fun hold1 => ?_
 refine .a (below_ac 10 (by omega) (by omega) l p id _ _ dl hl hp (by simp (disch := omega) [hH]) hold1) hb28 ?_ (ha := by simp (disch := first|omega|(simp only[ln];omega)) [idf_Wd', hH])
 rintro _ _ nx2 ⟨⟨k, rfl, k0, k1⟩, ⟨p2, hp2, rfl⟩, hnx2⟩
 try simp only [] at hnx2
 clear hold1
 refine .nil ?_
 refine hK3 _ ?_
 refine .block ?_
 refine .q ?_
 refine .c (fun h11 => ?_) (fun h11 => ?_)
 ·try simp only[dc]at h11
  refine .sq fun K5 hK5 => ?_
  refine .region ?_
  refine .k 1 ?_
  refine AOPS.old fun hold1 => ?_
  refine .a (wide_ac l p2 id _ _ dl hl hp2 (by simp (disch := omega) [hH]) hold1) hb30 ?_
  rintro _ _ nx3 ⟨⟨xa, rfl, xao⟩, ⟨p3, hp3, rfl⟩, hnx3⟩
  try simp only [] at hnx3
  clear hold1
  refine .k 1 ?_
  refine AOPS.old fun hold3 => ?_
  refine .a (wide_ac l p3 id _ _ dl hl hp3 (by simp (disch := omega) [hH]) hold3) hb30 ?_
  rintro _ _ nx4 ⟨⟨xb, rfl, xbo⟩, ⟨p4, hp4, rfl⟩, hnx4⟩
  try simp only [] at hnx4
  clear hold3
  refine .k 1 ?_
  refine AOPS.old fun hold5 => ?_
  refine .a (wide_ac l p4 id _ _ dl hl hp4 (by simp (disch := omega) [hH]) hold5) hb30 ?_
  rintro _ _ nx5 ⟨⟨xc, rfl, xco⟩, ⟨p5, hp5, rfl⟩, hnx5⟩
  try simp only [] at hnx5
  clear hold5
  refine .f (pointMakeS_fc xa xb xc xao xbo xco) hb29 ?_
  refine .e ?_
  refine hK5 _ ?_
  refine .q ?_
  refine .ret ?_
  exact hK _ _ _ _ _ trivial ((Fin.mk (r := .agg [.int .u64 (mkP xa.v xb.v xc.v).x.a, .int .u64 (mkP xa.v xb.v xc.v).x.b, .int .u64 (mkP xa.v xb.v xc.v).x.c, .int .u64 (mkP xa.v xb.v xc.v).x.d, .int .u64 (mkP xa.v xb.v xc.v).y.a, .int .u64 (mkP xa.v xb.v xc.v).y.b, .int .u64 (mkP xa.v xb.v xc.v).y.c, .int .u64 (mkP xa.v xb.v xc.v).y.d, .int .u64 (mkP xa.v xb.v xc.v).w.a, .int .u64 (mkP xa.v xb.v xc.v).w.b, .int .u64 (mkP xa.v xb.v xc.v).w.c, .int .u64 (mkP xa.v xb.v xc.v).w.d]) (by simp (disch := omega) [aRes, aResL, aRes1])).restr (fun i => decide (i < nx))) (⟨⟨mkP xa.v xb.v xc.v, rfl, mkP_ok _ _ _⟩, ⟨p5, hp5, by simp (disch := first | omega | (simp; done) | (simp; omega)) [hrestr_in, hrestr_out, hrestr_all hd, hupd_same]⟩, by first | omega | (simp at *; omega)⟩)
 ·try simp only[dc]at h11
  refine .q ?_
  refine .c (fun h24 => ?_) (fun h24 => ?_)
  ·try simp only[dc]at h24
   refine .sq fun K8 hK8 => ?_
   refine .sq fun K9 hK9 => ?_
   refine .region ?_
   refine .k 1 ?_
   refine AOPS.old fun hold1 => ?_
   refine .a (once_ac 4 (by omega) (by omega) l p2 id _ _ dl hl hp2 (by simp (disch := omega) [hH]) hold1) hb31 ?_
   rintro _ _ nx3 ⟨⟨b, rfl⟩, ⟨p3, hp3, rfl⟩, hnx3⟩
   try simp only [] at hnx3
   clear hold1
   refine .nil ?_
   refine hK9 _ ?_
   refine .c (t := b) (fun h27 => ?_) (fun h27 => ?_)
   ·try simp only[dc]at h27
    refine .sq fun K10 hK10 => ?_
    refine .region ?_
    refine .k 1 ?_
    refine AOPS.old fun hold1 => ?_
    refine .a (wide_ac l p3 id _ _ dl hl hp3 (by simp (disch := omega) [hH]) hold1) hb30 ?_
    rintro _ _ nx4 ⟨⟨xa, rfl, xao⟩, ⟨p4, hp4, rfl⟩, hnx4⟩
    try simp only [] at hnx4
    clear hold1
    refine .k 1 ?_
    refine AOPS.old fun hold3 => ?_
    refine .a (wide_ac l p4 id _ _ dl hl hp4 (by simp (disch := omega) [hH]) hold3) hb30 ?_
    rintro _ _ nx5 ⟨⟨xb, rfl, xbo⟩, ⟨p5, hp5, rfl⟩, hnx5⟩
    try simp only [] at hnx5
    clear hold3
    refine .k 1 ?_
    refine AOPS.old fun hold5 => ?_
    refine .a (wide_ac l p5 id _ _ dl hl hp5 (by simp (disch := omega) [hH]) hold5) hb30 ?_
    rintro _ _ nx6 ⟨⟨xc, rfl, xco⟩, ⟨p6, hp6, rfl⟩, hnx6⟩
    try simp only [] at hnx6
    clear hold5
    refine .e ?_
    refine hK10 _ ?_
    refine .ret ?_
    exact hK _ _ _ _ _ trivial ((Fin.mk (r := .agg [.int .u64 ((⟨xa, xb, xc⟩ : Pt)).x.a, .int .u64 ((⟨xa, xb, xc⟩ : Pt)).x.b, .int .u64 ((⟨xa, xb, xc⟩ : Pt)).x.c, .int .u64 ((⟨xa, xb, xc⟩ : Pt)).x.d, .int .u64 ((⟨xa, xb, xc⟩ : Pt)).y.a, .int .u64 ((⟨xa, xb, xc⟩ : Pt)).y.b, .int .u64 ((⟨xa, xb, xc⟩ : Pt)).y.c, .int .u64 ((⟨xa, xb, xc⟩ : Pt)).y.d, .int .u64 ((⟨xa, xb, xc⟩ : Pt)).w.a, .int .u64 ((⟨xa, xb, xc⟩ : Pt)).w.b, .int .u64 ((⟨xa, xb, xc⟩ : Pt)).w.c, .int .u64 ((⟨xa, xb, xc⟩ : Pt)).w.d]) (by simp (disch := omega) [aRes, aResL, aRes1])).restr (fun i => decide (i < nx))) (⟨⟨(⟨xa, xb, xc⟩ : Pt), rfl, ⟨xao, xbo, xco⟩⟩, ⟨p6, hp6, by simp (disch := first | omega | (simp; done) | (simp; omega)) [hrestr_in, hrestr_out, hrestr_all hd, hupd_same]⟩, by first | omega | (simp at *; omega)⟩)
   ·try simp only[dc]at h27
    refine .skip ?_
    refine hK8 _ ?_
    refine .sq fun K11 hK11 => ?_
    refine .region ?_
    refine .k 1 ?_ (by simp (disch := first|omega|(simp only[ln];omega)) [List.take_succ_cons, List.take_zero, IntKind.bits, hfd]; rfl)
    refine AOPS.old fun hold1 => ?_
    refine .a (word_ac l p3 id _ _ dl hl hp3 (by simp (disch := omega) [hH]) hold1) hb33 ?_ (ha := by simp (disch := first|omega|(simp only[ln];omega)) [idf_Wd', IntKind.bits, hfd])
    rintro _ _ nx4 ⟨⟨wa, rfl, wau⟩, ⟨p4, hp4, rfl⟩, hnx4⟩
    try simp only [] at hnx4
    clear hold1
    have ia := wrap_I64 wa
    refine .kf 1 (wideOfS_fc (IntKind.i64.wrap wa) ia.1 ia.2) hb32 ?_ (by simp (disch := first|omega|(simp only[ln];omega)) [List.take_succ_cons, List.take_zero, IntKind.bits, hfd]; rfl) (ha := by simp (disch := first|omega|(simp only[ln];omega)) [idf_Wd', IntKind.bits, hfd])
    refine .k 1 ?_ (by simp (disch := first|omega|(simp only[ln];omega)) [List.take_succ_cons, List.take_zero, IntKind.bits, hfd]; rfl)
    refine AOPS.old fun hold5 => ?_
    refine .a (word_ac l p4 id _ _ dl hl hp4 (by simp (disch := omega) [hH]) hold5) hb33 ?_ (ha := by simp (disch := first|omega|(simp only[ln];omega)) [idf_Wd', IntKind.bits, hfd])
    rintro _ _ nx5 ⟨⟨wb, rfl, wbu⟩, ⟨p5, hp5, rfl⟩, hnx5⟩
    try simp only [] at hnx5
    clear hold5
    have ib := wrap_I64 wb
    refine .kf 1 (wideOfS_fc (IntKind.i64.wrap wb) ib.1 ib.2) hb32 ?_ (by simp (disch := first|omega|(simp only[ln];omega)) [List.take_succ_cons, List.take_zero, IntKind.bits, hfd]; rfl) (ha := by simp (disch := first|omega|(simp only[ln];omega)) [idf_Wd', IntKind.bits, hfd])
    refine .k 1 ?_ (by simp (disch := first|omega|(simp only[ln];omega)) [List.take_succ_cons, List.take_zero, IntKind.bits, hfd]; rfl)
    refine AOPS.old fun hold9 => ?_
    refine .a (word_ac l p5 id _ _ dl hl hp5 (by simp (disch := omega) [hH]) hold9) hb33 ?_ (ha := by simp (disch := first|omega|(simp only[ln];omega)) [idf_Wd', IntKind.bits, hfd])
    rintro _ _ nx6 ⟨⟨wc, rfl, wcu⟩, ⟨p6, hp6, rfl⟩, hnx6⟩
    try simp only [] at hnx6
    clear hold9
    have fdw : wc.fdiv 2 = wc / 2 := Int.fdiv_eq_ediv_of_nonneg _ (by omega)
    obtain ⟨wcu0, wcu1⟩ := wcu
    have ic := wrap_I64 (1 + wc / 2)
    refine .kf 3 (wideOfS_fc (IntKind.i64.wrap (1 + wc / 2)) ic.1 ic.2) hb32 ?_ (by simp (disch := first|omega|(simp only[ln];omega)) [List.take_succ_cons, List.take_zero, IntKind.bits, hfd]; rfl) (ha := by simp (disch := first|omega|(simp only[ln];omega)) [idf_Wd', IntKind.bits, hfd])
    refine .f (pointMakeS_fc (W4z (IntKind.i64.wrap wa)) (W4z (IntKind.i64.wrap wb)) (W4z (IntKind.i64.wrap (1 + wc / 2))) (W4z_ok _) (W4z_ok _) (W4z_ok _)) hb29 ?_ (ha := by simp (disch := first|omega|(simp only[ln];omega)) [idf_Wd', IntKind.bits, hfd])
    refine .e ?_ (by simp (disch := first|omega|(simp only[ln];omega)) [IntKind.bits, hfd]; rfl)
    refine hK11 _ ?_
    refine .q ?_
    refine .ret ?_
    exact hK _ _ _ _ _ trivial ((Fin.mk (r := .agg [.int .u64 (mkP (W4z (IntKind.i64.wrap wa)).v (W4z (IntKind.i64.wrap wb)).v (W4z (IntKind.i64.wrap (1 + wc / 2))).v).x.a, .int .u64 (mkP (W4z (IntKind.i64.wrap wa)).v (W4z (IntKind.i64.wrap wb)).v (W4z (IntKind.i64.wrap (1 + wc / 2))).v).x.b, .int .u64 (mkP (W4z (IntKind.i64.wrap wa)).v (W4z (IntKind.i64.wrap wb)).v (W4z (IntKind.i64.wrap (1 + wc / 2))).v).x.c, .int .u64 (mkP (W4z (IntKind.i64.wrap wa)).v (W4z (IntKind.i64.wrap wb)).v (W4z (IntKind.i64.wrap (1 + wc / 2))).v).x.d, .int .u64 (mkP (W4z (IntKind.i64.wrap wa)).v (W4z (IntKind.i64.wrap wb)).v (W4z (IntKind.i64.wrap (1 + wc / 2))).v).y.a, .int .u64 (mkP (W4z (IntKind.i64.wrap wa)).v (W4z (IntKind.i64.wrap wb)).v (W4z (IntKind.i64.wrap (1 + wc / 2))).v).y.b, .int .u64 (mkP (W4z (IntKind.i64.wrap wa)).v (W4z (IntKind.i64.wrap wb)).v (W4z (IntKind.i64.wrap (1 + wc / 2))).v).y.c, .int .u64 (mkP (W4z (IntKind.i64.wrap wa)).v (W4z (IntKind.i64.wrap wb)).v (W4z (IntKind.i64.wrap (1 + wc / 2))).v).y.d, .int .u64 (mkP (W4z (IntKind.i64.wrap wa)).v (W4z (IntKind.i64.wrap wb)).v (W4z (IntKind.i64.wrap (1 + wc / 2))).v).w.a, .int .u64 (mkP (W4z (IntKind.i64.wrap wa)).v (W4z (IntKind.i64.wrap wb)).v (W4z (IntKind.i64.wrap (1 + wc / 2))).v).w.b, .int .u64 (mkP (W4z (IntKind.i64.wrap wa)).v (W4z (IntKind.i64.wrap wb)).v (W4z (IntKind.i64.wrap (1 + wc / 2))).v).w.c, .int .u64 (mkP (W4z (IntKind.i64.wrap wa)).v (W4z (IntKind.i64.wrap wb)).v (W4z (IntKind.i64.wrap (1 + wc / 2))).v).w.d]) (by simp (disch := omega) [aRes, aResL, aRes1])).restr (fun i => decide (i < nx))) (⟨⟨mkP (W4z (IntKind.i64.wrap wa)).v (W4z (IntKind.i64.wrap wb)).v (W4z (IntKind.i64.wrap (1 + wc / 2))).v, rfl, mkP_ok _ _ _⟩, ⟨p6, hp6, by simp (disch := first | omega | (simp; done) | (simp; omega)) [hrestr_in, hrestr_out, hrestr_all hd, hupd_same]⟩, by first | omega | (simp at *; omega)⟩)
  ·try simp only[dc]at h24
   refine .sq fun K13 hK13 => ?_
   refine .q ?_
   refine .c (fun h54 => ?_) (fun h54 => ?_)
   ·try simp only[dc]at h54
    refine .skip ?_
    refine hK13 _ ?_
    refine .c (fun h54 => ?_) (fun h54 => ?_)
    ·try simp only[dc]at h54
     refine .sq fun K15 hK15 => ?_
     refine .region ?_
     refine .k 1 ?_
     refine AOPS.old fun hold1 => ?_
     refine .a (near_ac (-40) (40) (by omega) (by omega) (by omega) l p2 id _ _ dl hl hp2 (by simp (disch := omega) [hH]) hold1) hb34 ?_
     rintro _ _ nx3 ⟨⟨na, rfl, na0, na1⟩, ⟨p3, hp3, rfl⟩, hnx3⟩
     try simp only [] at hnx3
     clear hold1
     refine .f (wideOfS_fc na (by omega) (by omega)) hb32 ?_
     refine .k 1 ?_
     refine AOPS.old fun hold4 => ?_
     refine .a (near_ac (-40) (40) (by omega) (by omega) (by omega) l p3 id _ _ dl hl hp3 (by simp (disch := omega) [hH]) hold4) hb34 ?_
     rintro _ _ nx4 ⟨⟨nb, rfl, nb0, nb1⟩, ⟨p4, hp4, rfl⟩, hnx4⟩
     try simp only [] at hnx4
     clear hold4
     refine .f (wideOfS_fc nb (by omega) (by omega)) hb32 ?_
     refine .k 1 ?_
     refine AOPS.old fun hold7 => ?_
     refine .a (near_ac (0) (9) (by omega) (by omega) (by omega) l p4 id _ _ dl hl hp4 (by simp (disch := omega) [hH]) hold7) hb34 ?_
     rintro _ _ nx5 ⟨⟨nc, rfl, nc0, nc1⟩, ⟨p5, hp5, rfl⟩, hnx5⟩
     try simp only [] at hnx5
     clear hold7
     refine .kf 1 (wideOfS_fc (1 + nc) (by omega) (by omega)) hb32 ?_
     refine .f (pointMakeS_fc (W4z na) (W4z nb) (W4z (1 + nc)) (W4z_ok _) (W4z_ok _) (W4z_ok _)) hb29 ?_
     refine .e ?_
     refine hK15 _ ?_
     refine .q ?_
     refine .ret ?_
     exact hK _ _ _ _ _ trivial ((Fin.mk (r := .agg [.int .u64 (mkP (W4z na).v (W4z nb).v (W4z (1 + nc)).v).x.a, .int .u64 (mkP (W4z na).v (W4z nb).v (W4z (1 + nc)).v).x.b, .int .u64 (mkP (W4z na).v (W4z nb).v (W4z (1 + nc)).v).x.c, .int .u64 (mkP (W4z na).v (W4z nb).v (W4z (1 + nc)).v).x.d, .int .u64 (mkP (W4z na).v (W4z nb).v (W4z (1 + nc)).v).y.a, .int .u64 (mkP (W4z na).v (W4z nb).v (W4z (1 + nc)).v).y.b, .int .u64 (mkP (W4z na).v (W4z nb).v (W4z (1 + nc)).v).y.c, .int .u64 (mkP (W4z na).v (W4z nb).v (W4z (1 + nc)).v).y.d, .int .u64 (mkP (W4z na).v (W4z nb).v (W4z (1 + nc)).v).w.a, .int .u64 (mkP (W4z na).v (W4z nb).v (W4z (1 + nc)).v).w.b, .int .u64 (mkP (W4z na).v (W4z nb).v (W4z (1 + nc)).v).w.c, .int .u64 (mkP (W4z na).v (W4z nb).v (W4z (1 + nc)).v).w.d]) (by simp (disch := omega) [aRes, aResL, aRes1])).restr (fun i => decide (i < nx))) (⟨⟨mkP (W4z na).v (W4z nb).v (W4z (1 + nc)).v, rfl, mkP_ok _ _ _⟩, ⟨p5, hp5, by simp (disch := first | omega | (simp; done) | (simp; omega)) [hrestr_in, hrestr_out, hrestr_all hd, hupd_same]⟩, by first | omega | (simp at *; omega)⟩)
    ·try simp only[dc]at h54
     refine .q ?_
     refine .c (fun h73 => ?_) (fun h73 => ?_)
     ·try simp only[dc]at h73
      refine .sq fun K18 hK18 => ?_
      refine .region ?_
      refine .k 1 ?_
      refine AOPS.old fun hold1 => ?_
      refine .a (near_ac (-1000000) (1000000) (by omega) (by omega) (by omega) l p2 id _ _ dl hl hp2 (by simp (disch := omega) [hH]) hold1) hb34 ?_
      rintro _ _ nx3 ⟨⟨na, rfl, na0, na1⟩, ⟨p3, hp3, rfl⟩, hnx3⟩
      try simp only [] at hnx3
      clear hold1
      refine .k 1 ?_
      refine AOPS.old fun hold3 => ?_
      refine .a (near_ac (-1000000) (1000000) (by omega) (by omega) (by omega) l p3 id _ _ dl hl hp3 (by simp (disch := omega) [hH]) hold3) hb34 ?_
      rintro _ _ nx4 ⟨⟨nb, rfl, nb0, nb1⟩, ⟨p4, hp4, rfl⟩, hnx4⟩
      try simp only [] at hnx4
      clear hold3
      refine .kf 1 (pointOfS_fc na nb (by omega) (by omega) (by omega) (by omega)) hb35 ?_
      refine .e ?_
      refine hK18 _ ?_
      refine .ret ?_
      exact hK _ _ _ _ _ trivial ((Fin.mk (r := .agg [.int .u64 (pt3 na nb 1).x.a, .int .u64 (pt3 na nb 1).x.b, .int .u64 (pt3 na nb 1).x.c, .int .u64 (pt3 na nb 1).x.d, .int .u64 (pt3 na nb 1).y.a, .int .u64 (pt3 na nb 1).y.b, .int .u64 (pt3 na nb 1).y.c, .int .u64 (pt3 na nb 1).y.d, .int .u64 (pt3 na nb 1).w.a, .int .u64 (pt3 na nb 1).w.b, .int .u64 (pt3 na nb 1).w.c, .int .u64 (pt3 na nb 1).w.d]) (by simp (disch := omega) [aRes, aResL, aRes1])).restr (fun i => decide (i < nx))) (⟨⟨pt3 na nb 1, rfl, pt3_ok _ _ _⟩, ⟨p4, hp4, by simp (disch := first | omega | (simp; done) | (simp; omega)) [hrestr_in, hrestr_out, hrestr_all hd, hupd_same]⟩, by first | omega | (simp at *; omega)⟩)
     ·try simp only[dc]at h73
      refine .skip ?_
      refine hK2 _ ?_
      refine .sq fun K19 hK19 => ?_
      refine .region ?_
      refine .k 1 ?_
      refine AOPS.old fun hold1 => ?_
      refine .a (spot_ac l p2 id _ _ dl hl hp2 (by simp (disch := omega) [hH]) hold1) hb36 ?_
      rintro _ _ nx3 ⟨⟨na, nb, rfl, na0, na1, nb0, nb1⟩, ⟨p3, hp3, rfl⟩, hnx3⟩
      try simp only [] at hnx3
      clear hold1
      refine .f (pointOfS_fc na nb (by omega) (by omega) (by omega) (by omega)) hb35 ?_
      refine .e ?_
      refine hK19 _ ?_
      refine .ret ?_
      exact hK _ _ _ _ _ trivial ((Fin.mk (r := .agg [.int .u64 (pt3 na nb 1).x.a, .int .u64 (pt3 na nb 1).x.b, .int .u64 (pt3 na nb 1).x.c, .int .u64 (pt3 na nb 1).x.d, .int .u64 (pt3 na nb 1).y.a, .int .u64 (pt3 na nb 1).y.b, .int .u64 (pt3 na nb 1).y.c, .int .u64 (pt3 na nb 1).y.d, .int .u64 (pt3 na nb 1).w.a, .int .u64 (pt3 na nb 1).w.b, .int .u64 (pt3 na nb 1).w.c, .int .u64 (pt3 na nb 1).w.d]) (by simp (disch := omega) [aRes, aResL, aRes1])).restr (fun i => decide (i < nx))) (⟨⟨pt3 na nb 1, rfl, pt3_ok _ _ _⟩, ⟨p3, hp3, by simp (disch := first | omega | (simp; done) | (simp; omega)) [hrestr_in, hrestr_out, hrestr_all hd, hupd_same]⟩, by first | omega | (simp at *; omega)⟩)
   ·try simp only[dc]at h54
    refine .q ?_
    refine .c (fun h54 => ?_) (fun h54 => ?_)
    ·try simp only[dc]at h54
     refine .skip ?_
     refine hK13 _ ?_
     refine .c (fun h54 => ?_) (fun h54 => ?_)
     ·try simp only[dc]at h54
      refine .sq fun K21 hK21 => ?_
      refine .region ?_
      refine .k 1 ?_
      refine AOPS.old fun hold1 => ?_
      refine .a (near_ac (-40) (40) (by omega) (by omega) (by omega) l p2 id _ _ dl hl hp2 (by simp (disch := omega) [hH]) hold1) hb34 ?_
      rintro _ _ nx3 ⟨⟨na, rfl, na0, na1⟩, ⟨p3, hp3, rfl⟩, hnx3⟩
      try simp only [] at hnx3
      clear hold1
      refine .f (wideOfS_fc na (by omega) (by omega)) hb32 ?_
      refine .k 1 ?_
      refine AOPS.old fun hold4 => ?_
      refine .a (near_ac (-40) (40) (by omega) (by omega) (by omega) l p3 id _ _ dl hl hp3 (by simp (disch := omega) [hH]) hold4) hb34 ?_
      rintro _ _ nx4 ⟨⟨nb, rfl, nb0, nb1⟩, ⟨p4, hp4, rfl⟩, hnx4⟩
      try simp only [] at hnx4
      clear hold4
      refine .f (wideOfS_fc nb (by omega) (by omega)) hb32 ?_
      refine .k 1 ?_
      refine AOPS.old fun hold7 => ?_
      refine .a (near_ac (0) (9) (by omega) (by omega) (by omega) l p4 id _ _ dl hl hp4 (by simp (disch := omega) [hH]) hold7) hb34 ?_
      rintro _ _ nx5 ⟨⟨nc, rfl, nc0, nc1⟩, ⟨p5, hp5, rfl⟩, hnx5⟩
      try simp only [] at hnx5
      clear hold7
      refine .kf 1 (wideOfS_fc (1 + nc) (by omega) (by omega)) hb32 ?_
      refine .f (pointMakeS_fc (W4z na) (W4z nb) (W4z (1 + nc)) (W4z_ok _) (W4z_ok _) (W4z_ok _)) hb29 ?_
      refine .e ?_
      refine hK21 _ ?_
      refine .q ?_
      refine .ret ?_
      exact hK _ _ _ _ _ trivial ((Fin.mk (r := .agg [.int .u64 (mkP (W4z na).v (W4z nb).v (W4z (1 + nc)).v).x.a, .int .u64 (mkP (W4z na).v (W4z nb).v (W4z (1 + nc)).v).x.b, .int .u64 (mkP (W4z na).v (W4z nb).v (W4z (1 + nc)).v).x.c, .int .u64 (mkP (W4z na).v (W4z nb).v (W4z (1 + nc)).v).x.d, .int .u64 (mkP (W4z na).v (W4z nb).v (W4z (1 + nc)).v).y.a, .int .u64 (mkP (W4z na).v (W4z nb).v (W4z (1 + nc)).v).y.b, .int .u64 (mkP (W4z na).v (W4z nb).v (W4z (1 + nc)).v).y.c, .int .u64 (mkP (W4z na).v (W4z nb).v (W4z (1 + nc)).v).y.d, .int .u64 (mkP (W4z na).v (W4z nb).v (W4z (1 + nc)).v).w.a, .int .u64 (mkP (W4z na).v (W4z nb).v (W4z (1 + nc)).v).w.b, .int .u64 (mkP (W4z na).v (W4z nb).v (W4z (1 + nc)).v).w.c, .int .u64 (mkP (W4z na).v (W4z nb).v (W4z (1 + nc)).v).w.d]) (by simp (disch := omega) [aRes, aResL, aRes1])).restr (fun i => decide (i < nx))) (⟨⟨mkP (W4z na).v (W4z nb).v (W4z (1 + nc)).v, rfl, mkP_ok _ _ _⟩, ⟨p5, hp5, by simp (disch := first | omega | (simp; done) | (simp; omega)) [hrestr_in, hrestr_out, hrestr_all hd, hupd_same]⟩, by first | omega | (simp at *; omega)⟩)
     ·try simp only[dc]at h54
      refine .q ?_
      refine .c (fun h73 => ?_) (fun h73 => ?_)
      ·try simp only[dc]at h73
       refine .sq fun K24 hK24 => ?_
       refine .region ?_
       refine .k 1 ?_
       refine AOPS.old fun hold1 => ?_
       refine .a (near_ac (-1000000) (1000000) (by omega) (by omega) (by omega) l p2 id _ _ dl hl hp2 (by simp (disch := omega) [hH]) hold1) hb34 ?_
       rintro _ _ nx3 ⟨⟨na, rfl, na0, na1⟩, ⟨p3, hp3, rfl⟩, hnx3⟩
       try simp only [] at hnx3
       clear hold1
       refine .k 1 ?_
       refine AOPS.old fun hold3 => ?_
       refine .a (near_ac (-1000000) (1000000) (by omega) (by omega) (by omega) l p3 id _ _ dl hl hp3 (by simp (disch := omega) [hH]) hold3) hb34 ?_
       rintro _ _ nx4 ⟨⟨nb, rfl, nb0, nb1⟩, ⟨p4, hp4, rfl⟩, hnx4⟩
       try simp only [] at hnx4
       clear hold3
       refine .kf 1 (pointOfS_fc na nb (by omega) (by omega) (by omega) (by omega)) hb35 ?_
       refine .e ?_
       refine hK24 _ ?_
       refine .ret ?_
       exact hK _ _ _ _ _ trivial ((Fin.mk (r := .agg [.int .u64 (pt3 na nb 1).x.a, .int .u64 (pt3 na nb 1).x.b, .int .u64 (pt3 na nb 1).x.c, .int .u64 (pt3 na nb 1).x.d, .int .u64 (pt3 na nb 1).y.a, .int .u64 (pt3 na nb 1).y.b, .int .u64 (pt3 na nb 1).y.c, .int .u64 (pt3 na nb 1).y.d, .int .u64 (pt3 na nb 1).w.a, .int .u64 (pt3 na nb 1).w.b, .int .u64 (pt3 na nb 1).w.c, .int .u64 (pt3 na nb 1).w.d]) (by simp (disch := omega) [aRes, aResL, aRes1])).restr (fun i => decide (i < nx))) (⟨⟨pt3 na nb 1, rfl, pt3_ok _ _ _⟩, ⟨p4, hp4, by simp (disch := first | omega | (simp; done) | (simp; omega)) [hrestr_in, hrestr_out, hrestr_all hd, hupd_same]⟩, by first | omega | (simp at *; omega)⟩)
      ·try simp only[dc]at h73
       refine .skip ?_
       refine hK2 _ ?_
       refine .sq fun K25 hK25 => ?_
       refine .region ?_
       refine .k 1 ?_
       refine AOPS.old fun hold1 => ?_
       refine .a (spot_ac l p2 id _ _ dl hl hp2 (by simp (disch := omega) [hH]) hold1) hb36 ?_
       rintro _ _ nx3 ⟨⟨na, nb, rfl, na0, na1, nb0, nb1⟩, ⟨p3, hp3, rfl⟩, hnx3⟩
       try simp only [] at hnx3
       clear hold1
       refine .f (pointOfS_fc na nb (by omega) (by omega) (by omega) (by omega)) hb35 ?_
       refine .e ?_
       refine hK25 _ ?_
       refine .ret ?_
       exact hK _ _ _ _ _ trivial ((Fin.mk (r := .agg [.int .u64 (pt3 na nb 1).x.a, .int .u64 (pt3 na nb 1).x.b, .int .u64 (pt3 na nb 1).x.c, .int .u64 (pt3 na nb 1).x.d, .int .u64 (pt3 na nb 1).y.a, .int .u64 (pt3 na nb 1).y.b, .int .u64 (pt3 na nb 1).y.c, .int .u64 (pt3 na nb 1).y.d, .int .u64 (pt3 na nb 1).w.a, .int .u64 (pt3 na nb 1).w.b, .int .u64 (pt3 na nb 1).w.c, .int .u64 (pt3 na nb 1).w.d]) (by simp (disch := omega) [aRes, aResL, aRes1])).restr (fun i => decide (i < nx))) (⟨⟨pt3 na nb 1, rfl, pt3_ok _ _ _⟩, ⟨p3, hp3, by simp (disch := first | omega | (simp; done) | (simp; omega)) [hrestr_in, hrestr_out, hrestr_all hd, hupd_same]⟩, by first | omega | (simp at *; omega)⟩)
    ·try simp only[dc]at h54
     refine .r ?_
     refine hK13 _ ?_
     refine .c (fun h54 => ?_) (fun h54 => ?_)
     ·try simp only[dc]at h54
      refine .sq fun K26 hK26 => ?_
      refine .region ?_
      refine .k 1 ?_
      refine AOPS.old fun hold1 => ?_
      refine .a (near_ac (-40) (40) (by omega) (by omega) (by omega) l p2 id _ _ dl hl hp2 (by simp (disch := omega) [hH]) hold1) hb34 ?_
      rintro _ _ nx3 ⟨⟨na, rfl, na0, na1⟩, ⟨p3, hp3, rfl⟩, hnx3⟩
      try simp only [] at hnx3
      clear hold1
      refine .f (wideOfS_fc na (by omega) (by omega)) hb32 ?_
      refine .k 1 ?_
      refine AOPS.old fun hold4 => ?_
      refine .a (near_ac (-40) (40) (by omega) (by omega) (by omega) l p3 id _ _ dl hl hp3 (by simp (disch := omega) [hH]) hold4) hb34 ?_
      rintro _ _ nx4 ⟨⟨nb, rfl, nb0, nb1⟩, ⟨p4, hp4, rfl⟩, hnx4⟩
      try simp only [] at hnx4
      clear hold4
      refine .f (wideOfS_fc nb (by omega) (by omega)) hb32 ?_
      refine .k 1 ?_
      refine AOPS.old fun hold7 => ?_
      refine .a (near_ac (0) (9) (by omega) (by omega) (by omega) l p4 id _ _ dl hl hp4 (by simp (disch := omega) [hH]) hold7) hb34 ?_
      rintro _ _ nx5 ⟨⟨nc, rfl, nc0, nc1⟩, ⟨p5, hp5, rfl⟩, hnx5⟩
      try simp only [] at hnx5
      clear hold7
      refine .kf 1 (wideOfS_fc (1 + nc) (by omega) (by omega)) hb32 ?_
      refine .f (pointMakeS_fc (W4z na) (W4z nb) (W4z (1 + nc)) (W4z_ok _) (W4z_ok _) (W4z_ok _)) hb29 ?_
      refine .e ?_
      refine hK26 _ ?_
      refine .q ?_
      refine .ret ?_
      exact hK _ _ _ _ _ trivial ((Fin.mk (r := .agg [.int .u64 (mkP (W4z na).v (W4z nb).v (W4z (1 + nc)).v).x.a, .int .u64 (mkP (W4z na).v (W4z nb).v (W4z (1 + nc)).v).x.b, .int .u64 (mkP (W4z na).v (W4z nb).v (W4z (1 + nc)).v).x.c, .int .u64 (mkP (W4z na).v (W4z nb).v (W4z (1 + nc)).v).x.d, .int .u64 (mkP (W4z na).v (W4z nb).v (W4z (1 + nc)).v).y.a, .int .u64 (mkP (W4z na).v (W4z nb).v (W4z (1 + nc)).v).y.b, .int .u64 (mkP (W4z na).v (W4z nb).v (W4z (1 + nc)).v).y.c, .int .u64 (mkP (W4z na).v (W4z nb).v (W4z (1 + nc)).v).y.d, .int .u64 (mkP (W4z na).v (W4z nb).v (W4z (1 + nc)).v).w.a, .int .u64 (mkP (W4z na).v (W4z nb).v (W4z (1 + nc)).v).w.b, .int .u64 (mkP (W4z na).v (W4z nb).v (W4z (1 + nc)).v).w.c, .int .u64 (mkP (W4z na).v (W4z nb).v (W4z (1 + nc)).v).w.d]) (by simp (disch := omega) [aRes, aResL, aRes1])).restr (fun i => decide (i < nx))) (⟨⟨mkP (W4z na).v (W4z nb).v (W4z (1 + nc)).v, rfl, mkP_ok _ _ _⟩, ⟨p5, hp5, by simp (disch := first | omega | (simp; done) | (simp; omega)) [hrestr_in, hrestr_out, hrestr_all hd, hupd_same]⟩, by first | omega | (simp at *; omega)⟩)
     ·try simp only[dc]at h54
      refine .q ?_
      refine .c (fun h73 => ?_) (fun h73 => ?_)
      ·try simp only[dc]at h73
       refine .sq fun K29 hK29 => ?_
       refine .region ?_
       refine .k 1 ?_
       refine AOPS.old fun hold1 => ?_
       refine .a (near_ac (-1000000) (1000000) (by omega) (by omega) (by omega) l p2 id _ _ dl hl hp2 (by simp (disch := omega) [hH]) hold1) hb34 ?_
       rintro _ _ nx3 ⟨⟨na, rfl, na0, na1⟩, ⟨p3, hp3, rfl⟩, hnx3⟩
       try simp only [] at hnx3
       clear hold1
       refine .k 1 ?_
       refine AOPS.old fun hold3 => ?_
       refine .a (near_ac (-1000000) (1000000) (by omega) (by omega) (by omega) l p3 id _ _ dl hl hp3 (by simp (disch := omega) [hH]) hold3) hb34 ?_
       rintro _ _ nx4 ⟨⟨nb, rfl, nb0, nb1⟩, ⟨p4, hp4, rfl⟩, hnx4⟩
       try simp only [] at hnx4
       clear hold3
       refine .kf 1 (pointOfS_fc na nb (by omega) (by omega) (by omega) (by omega)) hb35 ?_
       refine .e ?_
       refine hK29 _ ?_
       refine .ret ?_
       exact hK _ _ _ _ _ trivial ((Fin.mk (r := .agg [.int .u64 (pt3 na nb 1).x.a, .int .u64 (pt3 na nb 1).x.b, .int .u64 (pt3 na nb 1).x.c, .int .u64 (pt3 na nb 1).x.d, .int .u64 (pt3 na nb 1).y.a, .int .u64 (pt3 na nb 1).y.b, .int .u64 (pt3 na nb 1).y.c, .int .u64 (pt3 na nb 1).y.d, .int .u64 (pt3 na nb 1).w.a, .int .u64 (pt3 na nb 1).w.b, .int .u64 (pt3 na nb 1).w.c, .int .u64 (pt3 na nb 1).w.d]) (by simp (disch := omega) [aRes, aResL, aRes1])).restr (fun i => decide (i < nx))) (⟨⟨pt3 na nb 1, rfl, pt3_ok _ _ _⟩, ⟨p4, hp4, by simp (disch := first | omega | (simp; done) | (simp; omega)) [hrestr_in, hrestr_out, hrestr_all hd, hupd_same]⟩, by first | omega | (simp at *; omega)⟩)
      ·try simp only[dc]at h73
       refine .skip ?_
       refine hK2 _ ?_
       refine .sq fun K30 hK30 => ?_
       refine .region ?_
       refine .k 1 ?_
       refine AOPS.old fun hold1 => ?_
       refine .a (spot_ac l p2 id _ _ dl hl hp2 (by simp (disch := omega) [hH]) hold1) hb36 ?_
       rintro _ _ nx3 ⟨⟨na, nb, rfl, na0, na1, nb0, nb1⟩, ⟨p3, hp3, rfl⟩, hnx3⟩
       try simp only [] at hnx3
       clear hold1
       refine .f (pointOfS_fc na nb (by omega) (by omega) (by omega) (by omega)) hb35 ?_
       refine .e ?_
       refine hK30 _ ?_
       refine .ret ?_
       exact hK _ _ _ _ _ trivial ((Fin.mk (r := .agg [.int .u64 (pt3 na nb 1).x.a, .int .u64 (pt3 na nb 1).x.b, .int .u64 (pt3 na nb 1).x.c, .int .u64 (pt3 na nb 1).x.d, .int .u64 (pt3 na nb 1).y.a, .int .u64 (pt3 na nb 1).y.b, .int .u64 (pt3 na nb 1).y.c, .int .u64 (pt3 na nb 1).y.d, .int .u64 (pt3 na nb 1).w.a, .int .u64 (pt3 na nb 1).w.b, .int .u64 (pt3 na nb 1).w.c, .int .u64 (pt3 na nb 1).w.d]) (by simp (disch := omega) [aRes, aResL, aRes1])).restr (fun i => decide (i < nx))) (⟨⟨pt3 na nb 1, rfl, pt3_ok _ _ _⟩, ⟨p3, hp3, by simp (disch := first | omega | (simp; done) | (simp; omega)) [hrestr_in, hrestr_out, hrestr_all hd, hupd_same]⟩, by first | omega | (simp at *; omega)⟩)
theorem open_ac (l : List Int) (H : Heap) (nx : Nat) : ACall Try.prog 11 [Wd .u8 l] H nx (fun r H' nx' => r = .ptr nx 0 0 ∧ H' = hupd H nx (some (2, [[Wd .u8 l, .int .i64 0]])) ∧ nx' = nx + 1) := by
 refine .b Try.func11 6 fun K hK => ?_
 refine .q ?_
 refine .q ?_
 refine .ret ?_
 exact hK _ _ _ _ _ trivial (Fin.mk (r := .ptr nx 0 0) (by simp [aRes, aResL, aRes1])) (⟨rfl, by simp, by simp⟩)

end Go.Proofs.Ytgeecahbahgjbaa

/- Walks: FnTurns, walked. -/
namespace Go.Proofs.Ytgeecahbahgjbaa
open Go Go.RowKit
set_option linter.unusedSimpArgs false
set_option linter.unusedVariables false
set_option maxRecDepth 100000
attribute [local simp] szT3 byT3 agT3 unT3 zoT3 szT5 byT5 agT5 unT5 zoT5 szT22 byT22 agT22 elT22 unT22 zoT22

theorem big_fc (l : List Int) : FC Try.prog 4 [Wd .u8 l] (.bool (decide (1048576 < (l.length : Int)))) := by
 refine .b Try.func4 6 (fun nx K hK => ?_)
 refine .q ?_
 refine .q ?_ (by simp (disch := first|omega|(simp only[ln];omega)) [len_Wd (P := Try.prog) #[22] rfl elT22]; rfl)
 refine .ret ?_
 exact hK _ _ _ _ trivial (Fin.m)

end Go.Proofs.Ytgeecahbahgjbaa

/- Walks: points in order, between, crossings (both). -/
namespace Go.Proofs.Ytgeecahbahgjbaa
open Go Go.RowKit
set_option linter.unusedSimpArgs false
set_option linter.unusedVariables false
set_option maxRecDepth 100000


theorem eqW4n (n : Nat) (a b c d a' b' c' d' : Int) : eqW Try.prog (n + 2) 26 [.int .u64 a, .int .u64 b, .int .u64 c, .int .u64 d] [.int .u64 a', .int .u64 b', .int .u64 c', .int .u64 d'] = some ((a == a') && ((b == b') && ((c == c') && ((d == d') && true)))) := by
  have hs : Try.prog.stoodInHeld 26 = false := by kernel_rfl
  have hz : szOf Try.prog 24 = some 1 := by kernel_rfl
  have ha : aggT Try.prog 24 = some false := by kernel_rfl
  unfold eqW
  simp only [Try.underlying26, hs]
  simp [eqF, hz, ha, eqW1]
theorem eqPt (p q : Pt) : eqW Try.prog 8 28 [.int .u64 p.x.a, .int .u64 p.x.b, .int .u64 p.x.c, .int .u64 p.x.d, .int .u64 p.y.a, .int .u64 p.y.b, .int .u64 p.y.c, .int .u64 p.y.d, .int .u64 p.w.a, .int .u64 p.w.b, .int .u64 p.w.c, .int .u64 p.w.d] [.int .u64 q.x.a, .int .u64 q.x.b, .int .u64 q.x.c, .int .u64 q.x.d, .int .u64 q.y.a, .int .u64 q.y.b, .int .u64 q.y.c, .int .u64 q.y.d, .int .u64 q.w.a, .int .u64 q.w.b, .int .u64 q.w.c, .int .u64 q.w.d] = some (decide (p = q)) := by
  have hs : Try.prog.stoodInHeld 28 = false := by kernel_rfl
  have hz : szOf Try.prog 26 = some 4 := by kernel_rfl
  have ha : aggT Try.prog 26 = some true := by kernel_rfl
  unfold eqW
  simp only [Try.underlying28, hs]
  simp [eqF, hz, ha, eqW4n]
  obtain ⟨⟨a1, a2, a3, a4⟩, ⟨b1, b2, b3, b4⟩, ⟨c1, c2, c3, c4⟩⟩ := p
  obtain ⟨⟨d1, d2, d3, d4⟩, ⟨e1, e2, e3, e4⟩, ⟨f1, f2, f3, f4⟩⟩ := q
  rw [Bool.eq_iff_iff]
  simp [Pt.mk.injEq, W4.mk.injEq, and_assoc]
end Go.Proofs.Ytgeecahbahgjbaa

/- Walks: FnExactRingFault, FnExactRingArea2, FnExactRingsMeet, walked. -/
namespace Go.Proofs.Ytgeecahbahgjbaa
open Go Go.RowKit
set_option linter.unusedSimpArgs false
set_option linter.unusedVariables false
set_option maxRecDepth 100000


def szN (len : Nat) (n : Int) : Int := if n - len < 0 then -1 else n - len
end Go.Proofs.Ytgeecahbahgjbaa

/- Walks: numbers in decimal, by the program. -/
namespace Go.Proofs.Ytgeecahbahgjbaa
open Go Go.RowKit
set_option linter.unusedSimpArgs false
set_option linter.unusedVariables false
set_option maxRecDepth 100000
attribute [local simp] szT3 byT3 agT3 unT3 zoT3 szT4 byT4 agT4 unT4 zoT4 szT5 byT5 agT5 unT5 zoT5 szT9 byT9 agT9 stT9 zoT9 szT22 byT22 agT22 elT22 unT22 zoT22 szT24 byT24 agT24 unT24 zoT24 szT53 byT53 agT53 elT53 unT53 zoT53 szT55 byT55 agT55 flT55 fdT55_0 fdT55_1 zoT55

theorem pow_b (k : Nat) : 18446744073709551616 ^ k ≤ 10 ^ (20 * k) := by
  rw [Nat.pow_mul]; exact Nat.pow_le_pow_left (by decide) k
theorem numsOf_wd (l : List Int) : numsOf (wd .u8 l) = some l := by
  induction l with
  | nil => rfl
  | cons x r ih => rw [wd_cons, numsOf, ih]; rfl
theorem mag_ten : mag (10 : Int) = [10] := by
  have h := mag_of (l := [10]) (by intro x hx; simp at hx; omega)
  have e1 : trimW [10] = [10] := by decide
  have e2 : val 18446744073709551616 [10] = 10 := by decide
  rw [e1, e2] at h; exact h.symm
theorem mag_dg {d : Nat} (h : d < 10) : (mag (d : Int)).length = (if d = 0 then 0 else 1) ∧ (d ≠ 0 → gt (mag (d : Int)) 0 = d) := by
  rcases Nat.eq_zero_or_pos d with h0 | h0
  · subst h0; exact ⟨by rw [show ((0 : Nat) : Int) = 0 from rfl, mag_zero]; rfl, fun h => absurd rfl h⟩
  · have hl : (mag (d : Int)).length = 1 := by
      have h1 : (mag (d : Int)).length ≤ 1 := Bg.len (k := 1) (by unfold Bg; omega)
      have h2 : (mag (d : Int)).length ≠ 0 := fun h => by rw [mag_len0] at h; omega
      omega
    exact ⟨by rw [hl, if_neg (by omega)], fun _ => mag_one hl⟩

set_option maxHeartbeats 2000000 in
theorem reverseB_ac (l : List Int) (id : Nat) (HP : Heap) (nx : Nat) (hH : HP id = some (1, wd .u8 l)) (hid : id < nx) (hl : l.length ≤ 1099511627776000) : ACall Try.prog 62 [.osl id 0 l.length] HP nx (fun r H' nx' => r = .tup [] ∧ H' = hupd HP id (some (1, wd .u8 l.reverse)) ∧ nx ≤ nx') := by
 refine .b Try.func62 28 fun K hK => ?_
 refine .q ?_ (by simp (disch := first|omega|(simp only[ln];omega)) [len_Wd (P := Try.prog) #[22] rfl elT22, hH]; rfl)
 refine .block ?_
 
 refine .loop (fun N st => ∃ i : Nat, N = l.length - i ∧ i ≤ l.length ∧ (st.heap = hupd HP id (some (1, wd .u8 (revZ l i)))) ∧ (nx ≤ st.nx) ∧ st.env 0 = .osl id 0 l.length ∧ st.env 2 = .int .i64 (i : Int) ∧ st.env 3 = .int .i64 ((l.length : Int) - 1 - (i : Int)) ∧ st.nt = 28) (l.length) (by refine ⟨0, by omega, by omega, by rw [revZ_zero]; exact (hupd_id hH).symm, Nat.le_refl _, ?_, ?_, ?_, rfl⟩ <;> first|(simp (disch := omega);done)|omega|(simp;done)|(simp;omega)|(simp (disch := omega) <;> omega)) ?_
 rintro N ⟨e, H, mm, nt⟩ ⟨i, rfl, hi, rfl, hnx, g0, g2, g3, rfl⟩
 simp only [] at g0 g2 g3
 refine .sq fun K2 hK2 => ?_
 refine .q ?_ (by simp (disch := first|omega|(simp only[ln];omega)) [g2, g3]; rfl)
 refine .c (fun h9 => ?_) (fun h9 => ?_)
 ·try simp only[dc]at h9
  simp only [] at hnx
  have hi' : 2 * i + 1 < l.length := by omega
  obtain ⟨j, hj⟩ : ∃ j : Nat, j = l.length - 1 - i := ⟨_, rfl⟩
  have hji : (l.length : Int) - 1 - i = j := by omega
  have hlo := revZ_lo hi'
  have hhi := revZ_hi hi'
  have hset := revZ_step hi'
  have hrl := revZ_len l i
  rw [← hj] at hhi hset
  generalize revZ l i = R at *
  have hil : i < R.length := by omega
  have hjl : j < R.length := by omega
  refine .skip ?_
  refine hK2 _ ?_
  refine .sq fun K4 hK4 => ?_
  refine .block ?_
  refine .old fun hold => ?_
  refine .d 13 ?_
  refine .k 2 (fun fs5 hfs5 => ?_) (by simp (disch := first|omega|(simp only[ln];omega)) [runDf.eq_def, runF1, runF2, stepF.eq_def, updo.eq_def, hupo.eq_def, opSto1.eq_def, List.take_succ_cons, List.take_zero, idx_WdD (P := Try.prog) elT22 szT5, if_pos, g0, g2, g3, hji, hlo, hhi, hil, hjl, gt_set, gt_set_ne, List.length_set]; rfl)
  refine DP.runF1q (by simp (disch := first|omega|(simp only[ln];omega)) [runDf.eq_def, runF1, runF2, stepF.eq_def, updo.eq_def, hupo.eq_def, opSto1.eq_def, idx_WdD (P := Try.prog) elT22 szT5, if_pos, g0, g2, g3, hji, hlo, hhi, hil, hjl, gt_set, gt_set_ne, List.length_set]; rfl) fun fq6 hfq6 => ?_
  simp [qids, asksB, Op.operands, topId] at hfq6
  simp only [updo]
  refine DP.runF1q (by simp (disch := first|omega|(simp only[ln];omega)) [runDf.eq_def, runF1, runF2, stepF.eq_def, updo.eq_def, hupo.eq_def, opSto1.eq_def, idx_WdD (P := Try.prog) elT22 szT5, if_pos, g0, g2, g3, hji, hlo, hhi, hil, hjl, gt_set, gt_set_ne, List.length_set]; rfl) fun fq7 hfq7 => ?_
  simp [qids, asksB, Op.operands, topId] at hfq7
  simp only [updo]
  refine .k 9 (fun fs8 hfs8 => ?_) (by simp (disch := first|omega|(simp only[ln];omega)) [runDf.eq_def, runF1, runF2, stepF.eq_def, updo.eq_def, hupo.eq_def, opSto1.eq_def, List.take_succ_cons, List.take_zero, idx_WdD (P := Try.prog) elT22 szT5, if_pos, g0, g2, g3, hji, hlo, hhi, hil, hjl, gt_set, gt_set_ne, List.length_set]; rfl)
  refine DQ.stoT (m := 13) [2, 3] _ (by simp (disch := first|omega|(simp only[ln];omega)) [runDf.eq_def, runF1, runF2, stepF.eq_def, updo.eq_def, hupo.eq_def, opSto1.eq_def, idx_WdD (P := Try.prog) elT22 szT5, if_pos, g0, g2, g3, hji, hlo, hhi, hil, hjl, gt_set, gt_set_ne, List.length_set]; rfl) rfl (by simp only[ln, hfs5, hfs8];omega) (by kernel_rfl) (by intro k f hk hex; simp only [List.mem_cons, List.not_mem_nil, or_false] at hex; rcases hex with rfl | rfl <;> (simp [List.getElem?_append, hfs5, hfs8] at hk; subst hk; refine ⟨?_, by first | omega | (simp; done) | (simp; omega)⟩; simp [qids, asksB, Op.operands, Call.operands, topId, numS, numI, Wd, hfq6, hfq7, g0, g2, g3]; try omega)) ?_
  try simp only []
  refine DQ.val1 _ (by simp (disch := first|omega|(simp only[ln];omega)) [runDf.eq_def, runF1, runF2, stepF.eq_def, updo.eq_def, hupo.eq_def, opSto1.eq_def, idx_WdD (P := Try.prog) elT22 szT5, if_pos, g0, g2, g3, hji, hlo, hhi, hil, hjl, gt_set, gt_set_ne, List.length_set]; rfl) rfl ?_
  simp only [updo]
  refine DQ.stoT (m := 13) [] _ (by simp (disch := first|omega|(simp only[ln];omega)) [runDf.eq_def, runF1, runF2, stepF.eq_def, updo.eq_def, hupo.eq_def, opSto1.eq_def, idx_WdD (P := Try.prog) elT22 szT5, if_pos, g0, g2, g3, hji, hlo, hhi, hil, hjl, gt_set, gt_set_ne, List.length_set]; rfl) rfl (by simp only[ln, hfs5, hfs8];omega) (by kernel_rfl) (by intro k f hk hex; simp only [List.not_mem_nil] at hex) ?_
  try simp only []
  refine hK4 _ ?_
  refine .r ?_ (by simp (disch := first|omega|(simp only[ln];omega)) [g2, g3]; rfl)
  refine ⟨l.length - (i + 1), by omega, i + 1, rfl, by omega, by simp [hupd_same, hset, hlo, hhi], by simp; omega, ?_, ?_, ?_, rfl⟩ <;> first|(simp (disch := omega) [g0, g2, g3];done)|omega|(simp;done)|(simp;omega)|(simp (disch := omega) [g0, g2, g3] <;> omega)
 ·try simp only[dc]at h9
  refine .exit ?_
  exact hK _ _ _ _ _ trivial ((Fin.m)) (⟨rfl, by rw [revZ_end (by omega)], hnx⟩)
section
attribute [local simp] idf_numI cells_numI
set_option maxHeartbeats 4000000 in
theorem numText_fc {k : Nat} {n : Int} (bn : Bg k n) (hk : k ≤ 1024) : FC Try.prog 38 [numI n] (.str (strOfNums (decB n))) := by
 have hn1 : n.natAbs < 10 ^ (20 * k) := Nat.lt_of_lt_of_le bn (pow_b k)
 have hdl : (decR n.natAbs).length ≤ 4096000000000 := by
   have := decD_len hn1
   unfold decR; rw [List.length_map]; omega
 clear hn1
 have mag_abs : mag ((n.natAbs : Nat) : Int) = mag n := by unfold mag; rw [Int.natAbs_natCast]
 have bk : ∀ m : Nat, m ≤ n.natAbs → (mag ((m : Nat) : Int)).length ≤ 68719476736 := fun m hm => by
   have : Bg k ((m : Nat) : Int) := by unfold Bg at *; rw [Int.natAbs_natCast]; omega
   have := this.len; omega
 have m10 := mag_ten
 have hzl : (decZ n.natAbs).length ≤ 4096000000000 := by
   unfold decZ; split
   · simp
   · exact hdl
 obtain ⟨D, hD⟩ : ∃ D, decZ n.natAbs ++ (if n < 0 then [45] else []) = D := ⟨_, rfl⟩
 have hDl : D.length ≤ 4096000000001 := by
   rw [← hD, List.length_append]
   split
   · simp; omega
   · simp; omega
 refine .b Try.func38 49 (fun nx K hK => ?_)
 refine .q ?_
 refine .q ?_ (by simp (disch := first|omega|(simp only[ln];omega)) [numI]; rfl)
 refine .sq fun K3 hK3 => ?_
 refine .q ?_
 refine .block ?_
 refine .loop (fun N s => ∃ (m id : Nat) (c : List Int), N = m + 0 ∧ m ≤ n.natAbs ∧ c ++ decR m = decR n.natAbs ∧ c.length ≤ 4096000000000 ∧ (m ≠ 0 → c.length + (decR m).length ≤ 4096000000000) ∧ nx < id ∧ s.env 1 = .ptr nx 0 0 ∧ s.env 3 = .osl id 0 c.length ∧ s.env 4 = Wd .u64 (mag ((m : Nat) : Int)) ∧ s.heap nx = some (2, [[.bool (decide (n < 0)), Wd .u64 (mag n)]]) ∧ nx < s.nx ∧ s.heap id = some (1, wd .u8 c) ∧ id < s.nx ∧ s.nt = 49) (n.natAbs) (by refine ⟨n.natAbs, nx + 1, [], by omega, by omega, rfl, by simp, fun _ => by simpa using hdl, by omega, ?_, ?_, ?_, ?_, ?_, ?_, ?_, rfl⟩ <;> first|(simp (disch := omega) [mag_abs, wd];done)|omega|(simp;done)|(simp;omega)) ?_
 rintro N ⟨e, H, mm, nt⟩ ⟨m, id, c, hN, hm, hc, hcl, hcm, hid, g1, g3, g4, Ha, xa, Ho, xo, rfl⟩
 simp only [] at g1 g3 g4 Ha xa Ho xo
 refine .sq fun K5 hK5 => ?_
 refine .q ?_ (by simp (disch := first|omega|(simp only[ln];omega)) [len_Wd (P := Try.prog) #[53] rfl elT53, g4]; rfl)
 refine .c (t := decide (0 < ((mag ((m : Nat) : Int)).length : Int))) (fun h13 => ?_) (fun h13 => ?_)
 ·try simp only[dc]at h13
  have hm0 : m ≠ 0 := fun h => by
    have := mag_len0.2 (show ((m : Nat) : Int) = 0 by omega)
    omega
  have hdr := decR_pos hm0
  have dv := divWords_fc m 10 (by omega) (bk m hm) (by rw [show ((10 : Nat) : Int) = 10 from rfl, m10]; simp)
  rw [show ((10 : Nat) : Int) = 10 from rfl, m10] at dv
  have hmd : m % 10 < 10 := Nat.mod_lt _ (by omega)
  obtain ⟨ml, mg⟩ := mag_dg hmd
  replace hcm := hcm hm0
  rw [hdr] at hcm
  simp only [List.length_cons] at hcm
  generalize hd : m % 10 = d at *
  generalize hqq : m / 10 = q at *
  refine .skip ?_
  refine hK5 _ ?_
  refine .block ?_
  refine .sq fun K7 hK7 => ?_
  refine .region ?_
  refine .k 2 ?_ (by simp (disch := first|omega|(simp only[ln];omega)) [List.take_succ_cons, List.take_zero, g4]; rfl)
  refine AOPS.frz1 16 mm 1 (wd .u64 [10]) (Wd .u64 [10]) (by simp; first | done | rfl) (by simp; first | exact fz_wd rfl | exact isl_take_wd (by simp)) ?_
  refine .f dv hb49 ?_ (ha := by simp (disch := first|omega|(simp only[ln];omega)) [idf_Wd', g4])
  refine .e ?_ (by simp (disch := first|omega|(simp only[ln];omega)) [g4]; rfl)
  refine hK7 _ ?_
  refine .q ?_
  refine .sq fun K9 hK9 => ?_
  have J9 : ∀ s : St, (s.env 1 = .ptr nx 0 0 ∧ s.env 3 = .osl id 0 c.length ∧ s.env 4 = Wd .u64 (mag ((m : Nat) : Int)) ∧ s.env 5 = Wd .u64 (mag ((q : Nat) : Int)) ∧ s.env 7 = .int .u8 (48 + ((d : Nat) : Int)) ∧ s.heap nx = some (2, [[.bool (decide (n < 0)), Wd .u64 (mag n)]]) ∧ nx < s.nx ∧ s.heap id = some (1, wd .u8 c) ∧ id < s.nx ∧ s.nt = 49) → K9 s := by
   rintro ⟨e, H, mm, nt⟩ ⟨g1d, g3d, g4d, g5d, g7d, Had, xad, Hod, xod, rfl⟩
   simp only [] at g1d g3d g4d g5d g7d Had xad Hod xod
   refine hK9 _ ?_
   refine .region ?_
   refine .k 3 ?_ (by simp (disch := first|omega|(simp only[ln];omega)) [List.take_succ_cons, List.take_zero, g1d, g3d, g4d, g5d, g7d, Had, Hod]; rfl)
   refine AOPS.opapp (by simp (disch := first|omega|(simp only[ln];omega)) [opApp.eq_def, aSrc_isl, aSrc_osl, aSrc_nsl, aSrc_int, wd_app, wd_app2, if_pos, wd_append, wd_take, wd_drop, List.nil_append, g1d, g3d, g4d, g5d, g7d, Had, Hod, src_Wd' (P := Try.prog) elT22]; first | rfl | exact ⟨rfl, rfl⟩ | exact ⟨rfl, rfl, rfl⟩) (by simp) (by simp) ?_
   simp only [puts_some, hdrop]
   refine .e ?_ (by simp (disch := first|omega|(simp only[ln];omega)) [g1d, g3d, g4d, g5d, g7d, Had, Hod]; rfl)
   refine ⟨q, by omega, q, mm + 1, c ++ [48 + ((d : Nat) : Int)], rfl, by omega, by rw [← hc, hdr]; simp, by simp; omega, fun _ => by simp; omega, by omega, ?_, ?_, ?_, ?_, ?_, ?_, ?_, rfl⟩ <;> first|(simp (disch := omega) [g1d, g3d, g4d, g5d, g7d, Had, Hod];done)|omega|(simp;done)|(simp;omega)
  refine .q ?_ (by simp (disch := first|omega|(simp only[ln];omega)) [len_Wd (P := Try.prog) #[53] rfl elT53]; rfl)
  refine .c (t := decide (0 < (mag ((d : Nat) : Int)).length)) (fun h22 => ?_) (fun h22 => ?_)
  ·try simp only[dc]at h22
   have hd0 : d ≠ 0 := fun h => by rw [ml, if_pos h] at h22; omega
   have mg0 := mg hd0
   have ml1 : (mag ((d : Nat) : Int)).length = 1 := by rw [ml, if_neg hd0]
   have wr : IntKind.u8.wrap (48 + ((d : Nat) : Int)) = 48 + ((d : Nat) : Int) := wrap_u8s (by omega) (by omega)
   refine .r ?_ (by simp (disch := first|omega|(simp only[ln];omega)) [idx_WdD (P := Try.prog) elT53 szT24, if_pos, mg0, ml1, wr, ld_ip agT24]; rfl)
   refine J9 _ ?_
   refine ⟨?_, ?_, ?_, ?_, ?_, ?_, ?_, ?_, ?_, rfl⟩ <;> first|(simp (disch := omega) [g1, g3, g4, Ha, Ho, mg0, wr];done)|omega|(simp;done)|(simp;omega)
  ·try simp only[dc]at h22
   have hd0 : d = 0 := Classical.byContradiction fun h => by rw [ml, if_neg h] at h22; omega
   refine .skip ?_
   refine J9 _ ?_
   refine ⟨?_, ?_, ?_, ?_, ?_, ?_, ?_, ?_, ?_, rfl⟩ <;> first|(simp (disch := omega) [g1, g3, g4, Ha, Ho, hd0];done)|omega|(simp;done)|(simp;omega)
 ·try simp only[dc]at h13
  have hm0 : m = 0 := by
    have := (mag_len0 (z := ((m : Nat) : Int))).1 (by omega)
    omega
  subst hm0
  rw [decR_zero, List.append_nil] at hc
  refine .exit ?_
  refine hK3 _ ?_
  refine .sq fun K11 hK11 => ?_
  have J11 : ∀ s : St, (∃ id : Nat, (nx < id) ∧ s.env 1 = .ptr nx 0 0 ∧ s.env 3 = .osl id 0 (decZ n.natAbs).length ∧ s.heap nx = some (2, [[.bool (decide (n < 0)), Wd .u64 (mag n)]]) ∧ nx < s.nx ∧ s.heap id = some (1, wd .u8 (decZ n.natAbs)) ∧ id < s.nx ∧ s.nt = 49) → K11 s := by
   clear g1 g3 g4 Ha xa Ho xo hid
   rintro ⟨e, H, mm, nt⟩ ⟨id, hid, g1z, g3z, Haz, xaz, Hoz, xoz, rfl⟩
   simp only [] at g1z g3z Haz xaz Hoz xoz
   refine hK11 _ ?_
   refine .sq fun K12 hK12 => ?_
   have J12 : ∀ s : St, (∃ id : Nat, (nx < id) ∧ s.env 3 = .osl id 0 D.length ∧ s.heap nx = some (2, [[.bool (decide (n < 0)), Wd .u64 (mag n)]]) ∧ nx < s.nx ∧ s.heap id = some (1, wd .u8 D) ∧ id < s.nx ∧ s.nt = 49) → K12 s := by
    rintro ⟨e, H, mm, nt⟩ ⟨id, hid, g3e, Hae, xae, Hoe, xoe, rfl⟩
    simp only [] at g3e Hae xae Hoe xoe
    have hDr : D.reverse = decB n := by rw [← hD]; rfl
    refine hK12 _ ?_
    refine .sq fun K13 hK13 => ?_
    refine .region ?_
    refine .k 1 ?_ (by simp (disch := first|omega|(simp only[ln];omega)) [List.take_succ_cons, List.take_zero, g3e]; rfl)
    refine .a (reverseB_ac D id _ _ (by simp (disch := omega) [Hoe]) (by simp; omega) (by omega)) hb62 ?_ (ha := by simp (disch := first|omega|(simp only[ln];omega)) [idf_Wd', g3e])
    rintro _ _ nx3 ⟨rfl, rfl, hnx3⟩
    refine .nil ?_
    refine hK13 _ ?_
    refine .sq fun K14 hK14 => ?_
    refine AWP.region ?_
    refine AOPS.runk 1 (by simp (disch := first|omega|(simp only[ln];omega)) [List.take_succ_cons, List.take_zero, g3e, Wd, numsOf_wd]; rfl) ?_
    simp only [List.drop_succ_cons, List.drop_zero]
    refine AOPS.frz1 47 id 1 (wd .u8 D.reverse) (Wd .u8 D.reverse) (by simp) (by simp [g3e]; first | exact fz_wd (by simp) | exact isl_take_wd (by simp)) ?_
    refine AOPS.all (by simp (disch := first|omega|(simp only[ln];omega)) [List.take_succ_cons, List.take_zero, g3e, Wd, numsOf_wd]; rfl) ?_
    refine hK14 _ ?_
    refine .ret ?_
    exact hK _ _ _ _ trivial ((Fin.m).cast (by rw [hDr]))
   refine .q ?_ (by simp (disch := first|omega|(simp only[ln];omega)) [g1z, Haz]; rfl)
   
   refine .c (t := decide (n < 0)) (fun h41 => ?_) (fun h41 => ?_)
   ·try simp only[dc]at h41
    have hD2 : D = decZ n.natAbs ++ [45] := by rw [← hD, if_pos h41]
    refine .region ?_
    refine .k 2 ?_ (by simp (disch := first|omega|(simp only[ln];omega)) [List.take_succ_cons, List.take_zero, g3z, Hoz]; rfl)
    refine AOPS.opapp (by simp (disch := first|omega|(simp only[ln];omega)) [opApp.eq_def, aSrc_isl, aSrc_osl, aSrc_nsl, aSrc_int, wd_app, wd_app2, if_pos, wd_append, wd_take, wd_drop, List.nil_append, g3z, Hoz, hzl, src_Wd' (P := Try.prog) elT22]; first | rfl | exact ⟨rfl, rfl⟩ | exact ⟨rfl, rfl, rfl⟩) (by simp) (by simp) ?_
    simp only [puts_some, hdrop]
    refine .e ?_ (by simp (disch := first|omega|(simp only[ln];omega)) [g3z, Hoz]; rfl)
    refine J12 _ ?_
    refine ⟨mm + 1, by omega, ?_, ?_, ?_, ?_, ?_, rfl⟩ <;> first|(simp (disch := omega) [g1z, g3z, Haz, Hoz, hD2];done)|omega|(simp;done)|(simp;omega)
   ·try simp only[dc]at h41
    have hD2 : D = decZ n.natAbs := by rw [← hD, if_neg h41, List.append_nil]
    refine .skip ?_
    refine J12 _ ?_
    refine ⟨id, by omega, ?_, ?_, ?_, ?_, ?_, rfl⟩ <;> first|(simp (disch := omega) [g1z, g3z, Haz, Hoz, hD2];done)|omega|(simp;done)|(simp;omega)
  refine .sq fun K16 hK16 => ?_
  by_cases hz : n = 0
  ·have hcn : c = [] := by rw [hz] at hc; rw [hc]; exact decR_zero
   subst hcn
   have hdz : decZ n.natAbs = [48] := by rw [hz]; rfl
   refine .r ?_ (by simp (disch := first|omega|(simp only[ln];omega)) [len_Wd (P := Try.prog) #[22] rfl elT22, g3, Ho]; rfl)
   refine hK16 _ ?_
   refine .c (fun h36 => ?_) (fun h36 => ?_)
   ·try simp only[dc]at h36
    refine .region ?_
    refine .k 2 ?_ (by simp (disch := first|omega|(simp only[ln];omega)) [List.take_succ_cons, List.take_zero, g3, Ho]; rfl)
    refine AOPS.opapp (by simp (disch := first|omega|(simp only[ln];omega)) [opApp.eq_def, aSrc_isl, aSrc_osl, aSrc_nsl, aSrc_int, wd_app, wd_app2, if_pos, wd_append, wd_take, wd_drop, List.nil_append, g3, Ho, src_Wd' (P := Try.prog) elT22]; first | rfl | exact ⟨rfl, rfl⟩ | exact ⟨rfl, rfl, rfl⟩) (by simp) (by simp) ?_
    simp only [puts_some, hdrop]
    refine .e ?_ (by simp (disch := first|omega|(simp only[ln];omega)) [g3, Ho]; rfl)
    refine J11 _ ?_
    refine ⟨mm + 1, by omega, ?_, ?_, ?_, ?_, ?_, ?_, rfl⟩ <;> first|(simp (disch := omega) [g1, g3, g4, Ha, Ho, hdz];done)|omega|(simp;done)|(simp;omega)
   ·simp at h36
  ·have hdz : decZ n.natAbs = c := by rw [hc]; unfold decZ; rw [if_neg (by omega)]
   have hc0 : c ≠ [] := by rw [← hdz]; exact decZ_len _
   have hc0' : c.length ≠ 0 := fun h => hc0 (List.length_eq_zero_iff.1 h)
   have hcb : ((c.length : Int) == 0) = false := by simp [hc0]
   refine .r ?_ (by simp (disch := first|omega|(simp only[ln];omega)) [len_Wd (P := Try.prog) #[22] rfl elT22, g3, hcb, hc0, Ho]; rfl)
   refine hK16 _ ?_
   refine .c (fun h36 => ?_) (fun h36 => ?_)
   ·simp [hc0] at h36
   ·try simp only[dc]at h36
    refine .skip ?_
    refine J11 _ ?_
    refine ⟨id, by omega, ?_, ?_, ?_, ?_, ?_, ?_, rfl⟩ <;> first|(simp (disch := omega) [g1, g3, g4, Ha, Ho, hdz];done)|omega|(simp;done)|(simp;omega)
end

end Go.Proofs.Ytgeecahbahgjbaa

/- Walks: numbers read of texts. -/
namespace Go.Proofs.Ytgeecahbahgjbaa
open Go Go.RowKit
set_option linter.unusedSimpArgs false
set_option linter.unusedVariables false
set_option maxRecDepth 100000
attribute [local simp] szT2 byT2 agT2 unT2 zoT2 szT3 byT3 agT3 unT3 zoT3 szT4 byT4 agT4 unT4 zoT4 szT5 byT5 agT5 unT5 zoT5 szT9 byT9 agT9 stT9 zoT9 szT24 byT24 agT24 unT24 zoT24 szT53 byT53 agT53 elT53 unT53 zoT53 szT55 byT55 agT55 flT55 fdT55_0 fdT55_1 zoT55

theorem sn_at {s : ByteArray} {i : Nat} {x : UInt8} (h : s[i]? = some x) : ∀ k : i < s.size, s[i]'k = x := fun k => by rw [getElem?_pos s i k] at h; exact Option.some.inj h

section
attribute [local simp] idf_numI cells_numI
set_option maxHeartbeats 4000000 in
theorem readNum_fc (L : List Int) (hb : Byt L) (hl : L.length ≤ 9223372036854775807) : FC Try.prog 41 [.str (strOfNums L)] (.tup [numI (rdI L), .bool (rdB L)]) := by
 have szL := strOfNums_size L
 refine .b Try.func41 65 (fun nx K hK => ?_)
 refine .q ?_
 refine .q ?_
 refine .sq fun K3 hK3 => ?_
 have J3 : ∀ s : St, (s.env 0 = .str (strOfNums L) ∧ s.env 2 = .ptr nx 0 0 ∧ s.env 3 = .bool false ∧ s.env 5 = .bool (rdS L) ∧ s.env 4 = .str (strOfNums (rdT L)) ∧ s.heap nx = some (2, [[.bool false, .nsl]]) ∧ nx < s.nx ∧ s.nt = 65) → K3 s := by
  rintro ⟨e, H, mm, nt⟩ ⟨g0a, g2a, g3a, g5a, g4a, Hza, xza, rfl⟩
  simp only [] at g0a g2a g3a g5a g4a Hza xza
  obtain ⟨T, hT⟩ : ∃ T, rdT L = T := ⟨_, rfl⟩
  have hTb : Byt T := by rw [← hT]; exact rdT_byt hb
  have hTl : T.length ≤ L.length := by rw [← hT]; exact rdT_len L
  rw [hT] at g4a
  have szT := strOfNums_size T
  refine hK3 _ ?_
  refine .sq fun K4 hK4 => ?_
  refine .sq fun K5 hK5 => ?_
  have J5 : ∀ s : St, (s.env 0 = .str (strOfNums L) ∧ s.env 2 = .ptr nx 0 0 ∧ s.env 3 = .bool false ∧ s.env 5 = .bool (rdS L) ∧ s.env 4 = .str (strOfNums T) ∧ s.env 26 = .bool (decide (T = []) || decide (100 < L.length)) ∧ s.heap nx = some (2, [[.bool false, .nsl]]) ∧ nx < s.nx ∧ s.nt = 65) → K5 s := by
   rintro ⟨e, H, mm, nt⟩ ⟨g0b, g2b, g3b, g5b, g4b, g26b, Hzb, xzb, rfl⟩
   simp only [] at g0b g2b g3b g5b g4b g26b Hzb xzb
   refine hK5 _ ?_
   refine .c (t := (decide (T = []) || decide (100 < L.length))) (fun h26 => ?_) (fun h26 => ?_) (by simp (disch := first|omega|(simp only[ln];omega)) [g26b])
   ·try simp only[dc]at h26
    have hno := rd_no (rd_none (L := L) (by rw [hT]; simpa using h26))
    refine .q ?_ (by simp (disch := first|omega|(simp only[ln];omega)) [g2b, Hzb]; rfl)
    refine .ret ?_
    exact hK _ _ _ _ trivial (((Fin.mk (r := .tup [.agg [.bool false, .nsl], .bool false]) (by simp (disch := omega) [aRes, aResL, aRes1, g2b])).weak (fun _ _ _ _ => tup0_weak)).cast (by rw [(hno).1, (hno).2]))
   ·try simp only[dc]at h26
    have hTn : T ≠ [] := fun h => by simp [h] at h26
    have hL100 : L.length ≤ 100 := by
      rcases Nat.lt_or_ge 100 L.length with h | h
      · simp [h] at h26
      · exact h
    have hT100 : T.length ≤ 100 := by omega
    refine .skip ?_
    refine hK4 _ ?_
    refine .q ?_ (by simp (disch := first|omega|(simp only[ln];omega)) [g2b]; rfl)
    refine .sq fun K8 hK8 => ?_
    refine AWP.weakH mm 2 [[.bool false, .nsl]] [[.bool (decide ((0 : Int) < 0)), Wd .u64 (mag 0)]] (by simp) (fun _ _ _ _ h => nslN h) ?_
    refine .q ?_ (by simp (disch := first|omega|(simp only[ln];omega)) [g4b, szT]; rfl)
    refine .block ?_
    
    refine .loop (fun N s => ∃ i : Nat, ∃ id : Nat, N = T.length - i ∧ i ≤ T.length ∧ (nx < id) ∧ (∀ c ∈ T.take i, isDg c = true) ∧ s.env 0 = .str (strOfNums L) ∧ s.env 2 = .ptr nx 0 0 ∧ s.env 3 = .bool false ∧ s.env 4 = .str (strOfNums T) ∧ s.env 5 = .bool (rdS L) ∧ s.env 6 = .ptr id 0 0 ∧ s.env 30 = .int .i64 (T.length : Int) ∧ s.env 31 = .int .i64 (i : Int) ∧ s.heap nx = some (2, [[.bool false, .nsl]]) ∧ nx < s.nx ∧ s.heap id = some (2, [[.bool (decide ((((rdV (T.take i) 0) : Nat) : Int) < 0)), Wd .u64 (mag (((rdV (T.take i) 0) : Nat) : Int))]]) ∧ id < s.nx ∧ s.nt = 65) (T.length) (by refine ⟨0, _, by omega, by omega, by omega, fun c hc => by simp at hc, ?_, ?_, ?_, ?_, ?_, ?_, ?_, ?_, ?_, ?_, ?_, ?_, rfl⟩ <;> first|(simp (disch := omega) [g0b, g4b, g5b, g2b, g3b, Hzb, rdV, strOfNums_size, hT];done)|omega|(simp;done)|(simp;omega)) ?_
    rintro N ⟨e, H, mm, nt⟩ ⟨i, id, rfl, hi, hid, hdg, g0, g2, g3, g4, g5, g6, g30, g31, Hz, xz, Hn, xn, rfl⟩
    simp only [] at g0 g2 g3 g4 g5 g6 g30 g31 Hz xz Hn xn
    refine .q ?_ (by simp (disch := first|omega|(simp only[ln];omega)) [g30, g31]; rfl)
    refine .sq fun K11 hK11 => ?_
    refine .c (fun h32 => ?_) (fun h32 => ?_)
    ·try simp only[dc]at h32
     have hi' : i < T.length := by omega
     obtain ⟨x, e1, g1⟩ := sn_get hTb hi'
     have e2 := sn_at e1
     have hcb := hTb (gt T i) (List.mem_of_getElem? (gtz_get hi'))
     have hiN : ((i : Int)).toNat = i := rfl
     have hx : i < (strOfNums T).size := by rw [szT]; exact hi'
     refine .skip ?_
     refine hK11 _ ?_
     refine .sq fun K12 hK12 => ?_
     refine .block ?_
     refine .q ?_ (by simp (disch := first|omega|(simp only[ln];omega)) [g31]; rfl)
     refine .sq fun K14 hK14 => ?_
     refine .sq fun K15 hK15 => ?_
     have J15 : ∀ s : St, (s.env 0 = .str (strOfNums L) ∧ s.env 2 = .ptr nx 0 0 ∧ s.env 3 = .bool false ∧ s.env 4 = .str (strOfNums T) ∧ s.env 5 = .bool (rdS L) ∧ s.env 6 = .ptr id 0 0 ∧ s.env 30 = .int .i64 (T.length : Int) ∧ s.env 31 = .int .i64 (i : Int) ∧ s.env 7 = .int .i64 (i : Int) ∧ s.env 43 = .bool (!isDg (gt T i)) ∧ s.heap nx = some (2, [[.bool false, .nsl]]) ∧ nx < s.nx ∧ s.heap id = some (2, [[.bool (decide ((((rdV (T.take i) 0) : Nat) : Int) < 0)), Wd .u64 (mag (((rdV (T.take i) 0) : Nat) : Int))]]) ∧ id < s.nx ∧ s.nt = 65) → K15 s := by
      rintro ⟨e, H, mm, nt⟩ ⟨g0c, g2c, g3c, g4c, g5c, g6c, g30c, g31c, g7c, g43c, Hzc, xzc, Hnc, xnc, rfl⟩
      simp only [] at g0c g2c g3c g4c g5c g6c g30c g31c g7c g43c Hzc xzc Hnc xnc
      refine hK15 _ ?_
      refine .c (t := !isDg (gt T i)) (fun h43 => ?_) (fun h43 => ?_) (by simp (disch := first|omega|(simp only[ln];omega)) [g43c])
      ·try simp only[dc]at h43
       have hno := rd_no (rd_bad (L := L) (i := i) (by rw [hT]; exact hi') (by rw [hT]; simpa using h43))
       refine .q ?_ (by simp (disch := first|omega|(simp only[ln];omega)) [g2c, Hzc]; rfl)
       refine .ret ?_
       exact hK _ _ _ _ trivial (((Fin.mk (r := .tup [.agg [.bool false, .nsl], .bool false]) (by simp (disch := omega) [aRes, aResL, aRes1, g2c])).weak (fun _ _ _ _ => tup0_weak)).cast (by rw [(hno).1, (hno).2]))
      ·try simp only[dc]at h43
       have hD : isDg (gt T i) = true := by simpa using h43
       have hD2 := isDg_iff.1 hD
       have bV := rdV_bg hdg (by rw [List.length_take]; omega)
       have hst := rdV_step hi'
       generalize rdV (T.take i) 0 = v at *
       have b10 : Bg 1 (10 : Int) := Bg.i64 (by omega) (by omega)
       have wc := wrap_u8s (x := gt T i - 48) (by omega) (by omega)
       have wi := wrap_i64s (x := gt T i - 48) (by omega) (by omega)
       obtain ⟨v2, hv2⟩ : ∃ v2 : Nat, v2 = v * 10 + (gt T i - 48).toNat := ⟨_, rfl⟩
       rw [← hv2] at hst
       have hst2 : ((v : Nat) : Int) * 10 + (gt T i - 48) = ((v2 : Nat) : Int) := by omega
       refine .skip ?_
       refine hK14 _ ?_
       refine .d 10 ?_
       refine .k 1 (fun fs17 hfs17 => ?_) (by simp (disch := first|omega|(simp only[ln];omega)) [runDf.eq_def, runF1, runF2, stepF.eq_def, updo.eq_def, hupo.eq_def, opSto1.eq_def, List.take_succ_cons, List.take_zero, g6c, g4c, g7c, Hnc, e1, e2, g1, hiN, wc, wi, numI_fold]; rfl)
       refine .f (whole_fc 10 (by omega) (by omega)) hb27 ?_ (ha := by simp (disch := first|omega|(simp only[ln];omega)) [idf_Wd', g6c, g4c, g7c, Hnc, e1, e2, g1, hiN, wc, wi, numI_fold])
       refine .f (by_fc bV b10 (by omega) (by omega)) hb65 ?_ (ha := by simp (disch := first|omega|(simp only[ln];omega)) [idf_Wd', g6c, g4c, g7c, Hnc, e1, e2, g1, hiN, wc, wi, numI_fold])
       refine .k 5 (fun fs18 hfs18 => ?_) (by simp (disch := first|omega|(simp only[ln];omega)) [runDf.eq_def, runF1, runF2, stepF.eq_def, updo.eq_def, hupo.eq_def, opSto1.eq_def, List.take_succ_cons, List.take_zero, g6c, g4c, g7c, Hnc, e1, e2, g1, hiN, wc, wi, numI_fold]; rfl)
       refine .f (whole_fc (gt T i - 48) (by omega) (by omega)) hb27 ?_ (ha := by simp (disch := first|omega|(simp only[ln];omega)) [idf_Wd', g6c, g4c, g7c, Hnc, e1, e2, g1, hiN, wc, wi, numI_fold])
       refine .f (plus_fc (bV.mul b10) (Bg.i64 (by omega) (by omega) : Bg 1 (gt T i - 48)) (by omega) (by omega)) hb63 ?_ (ha := by simp (disch := first|omega|(simp only[ln];omega)) [idf_Wd', g6c, g4c, g7c, Hnc, e1, e2, g1, hiN, wc, wi, numI_fold])
       refine .r 10 (by simp only[ln, hfs17, hfs18];omega) ?_ (by simp (disch := first|omega|(simp only[ln];omega)) [runDf.eq_def, runF1, runF2, stepF.eq_def, updo.eq_def, hupo.eq_def, opSto1.eq_def, g6c, g4c, g7c, Hnc, e1, e2, g1, hiN, wc, wi, numI_fold]; rfl)
       refine hK12 _ ?_
       refine .r ?_ (by simp (disch := first|omega|(simp only[ln];omega)) [g31c]; rfl)
       refine ⟨T.length - (i + 1), by omega, i + 1, id, rfl, by omega, by omega, take_dg hi' hdg hD, ?_, ?_, ?_, ?_, ?_, ?_, ?_, ?_, ?_, ?_, ?_, ?_, rfl⟩ <;> first|(simp (disch := omega) [g0c, g2c, g3c, g4c, g5c, g6c, g30c, g31c, g7c, g43c, Hzc, Hnc, hst, hst2];done)|omega|(simp;done)|(simp;omega)
     rcases (show gt T i < 48 ∨ (48 ≤ gt T i ∧ 57 < gt T i) ∨ (48 ≤ gt T i ∧ gt T i ≤ 57) by omega) with hk | ⟨hk, hk2⟩ | ⟨hk, hk2⟩
     ·refine .r ?_ (by simp (disch := first|omega|(simp only[ln];omega)) [g4, g31, e1, e2, g1, hiN, hk]; rfl)
      refine J15 _ ?_
      rw [show isDg (gt T i) = false by simp [isDg]; omega]
      refine ⟨?_, ?_, ?_, ?_, ?_, ?_, ?_, ?_, ?_, ?_, ?_, ?_, ?_, ?_, rfl⟩ <;> first|(simp (disch := omega) [g0, g2, g3, g4, g5, g6, g30, g31, Hz, Hn, hk];done)|omega|(simp;omega)
     ·have hn : decide (gt T i < 48) = false := decide_eq_false (by omega)
      refine .r ?_ (by simp (disch := first|omega|(simp only[ln];omega)) [g4, g31, e1, e2, g1, hiN, hk2, hn]; rfl)
      refine J15 _ ?_
      rw [show isDg (gt T i) = false by simp [isDg]; omega]
      refine ⟨?_, ?_, ?_, ?_, ?_, ?_, ?_, ?_, ?_, ?_, ?_, ?_, ?_, ?_, rfl⟩ <;> first|(simp (disch := omega) [g0, g2, g3, g4, g5, g6, g30, g31, Hz, Hn, hk2];done)|omega|(simp;omega)
     ·have hn : decide (gt T i < 48) = false := decide_eq_false (by omega)
      refine .r ?_ (by simp (disch := first|omega|(simp only[ln];omega)) [g4, g31, e1, e2, g1, hiN, hn]; rfl)
      refine J15 _ ?_
      rw [show isDg (gt T i) = true by simp [isDg]; omega]
      refine ⟨?_, ?_, ?_, ?_, ?_, ?_, ?_, ?_, ?_, ?_, ?_, ?_, ?_, ?_, rfl⟩ <;> first|(simp (disch := omega) [g0, g2, g3, g4, g5, g6, g30, g31, Hz, Hn, hk2];done)|omega|(simp;omega)
    ·try simp only[dc]at h32
     have hin : i = T.length := by omega
     rw [hin, List.take_length] at Hn hdg
     have bV := rdV_bg hdg hT100
     have hOk := rd_yes (rd_good (L := L) (by rw [hT]; exact hTn) hL100 (by rw [hT]; exact hdg))
     have md := made_fc (rdS L) (mag ((rdV T 0 : Nat) : Int)) (by have := bV.len; omega) (mag_dig _)
     have sgn := rdN_sg L
     rw [hT] at sgn
     rw [sgn] at md
     have bN := rdN_bg (L := L) (by rw [hT]; exact bV)
     have tx := numText_fc bN (by omega)
     refine .exit ?_
     refine hK8 _ ?_
     refine .sq fun K19 hK19 => ?_
     refine .region ?_
     refine .kf 3 md hb52 ?_ (by simp (disch := first|omega|(simp only[ln];omega)) [List.take_succ_cons, List.take_zero, g5, g6, Hn]; rfl) (ha := by simp (disch := first|omega|(simp only[ln];omega)) [idf_Wd', g5, g6, Hn])
     refine .e ?_ (by simp (disch := first|omega|(simp only[ln];omega)) [g5, g6, Hn]; rfl)
     refine hK19 _ ?_
     refine .sq fun K20 hK20 => ?_
     refine .old fun hold => ?_
     refine .d 5 ?_
     refine .k 1 (fun fs21 hfs21 => ?_) (by simp (disch := first|omega|(simp only[ln];omega)) [runDf.eq_def, runF1, runF2, stepF.eq_def, updo.eq_def, hupo.eq_def, opSto1.eq_def, List.take_succ_cons, List.take_zero, g0, g2, g6, Hz, numI_fold, sn_beq (decB_byt _) hb, Nat.ne_of_lt hid, Nat.ne_of_gt hid]; rfl)
     refine DP.runF1q (by simp (disch := first|omega|(simp only[ln];omega)) [runDf.eq_def, runF1, runF2, stepF.eq_def, updo.eq_def, hupo.eq_def, opSto1.eq_def, g0, g2, g6, Hz, numI_fold, sn_beq (decB_byt _) hb, Nat.ne_of_lt hid, Nat.ne_of_gt hid]; rfl) fun fq22 hfq22 => ?_
     simp [qids, asksB, Op.operands, topId] at hfq22
     simp only [updo]
     refine .f tx hb38 ?_ (ha := by simp (disch := first|omega|(simp only[ln];omega)) [idf_Wd', g0, g2, g6, Hz, numI_fold, sn_beq (decB_byt _) hb, Nat.ne_of_lt hid, Nat.ne_of_gt hid])
     refine DP.runF1q (by simp (disch := first|omega|(simp only[ln];omega)) [runDf.eq_def, runF1, runF2, stepF.eq_def, updo.eq_def, hupo.eq_def, opSto1.eq_def, g0, g2, g6, Hz, numI_fold, sn_beq (decB_byt _) hb, Nat.ne_of_lt hid, Nat.ne_of_gt hid]; rfl) fun fq23 hfq23 => ?_
     simp [qids, asksB, Op.operands, topId] at hfq23
     simp only [updo]
     refine DP.runF1q (by simp (disch := first|omega|(simp only[ln];omega)) [runDf.eq_def, runF1, runF2, stepF.eq_def, updo.eq_def, hupo.eq_def, opSto1.eq_def, g0, g2, g6, Hz, numI_fold, sn_beq (decB_byt _) hb, Nat.ne_of_lt hid, Nat.ne_of_gt hid]; rfl) fun fq24 hfq24 => ?_
     simp [qids, asksB, Op.operands, topId] at hfq24
     simp only [updo]
     refine DQ.sto1 (m := 5) [1, 3, 4] _ (by simp (disch := first|omega|(simp only[ln];omega)) [runDf.eq_def, runF1, runF2, stepF.eq_def, updo.eq_def, hupo.eq_def, opSto1.eq_def, g0, g2, g6, Hz, numI_fold, sn_beq (decB_byt _) hb, Nat.ne_of_lt hid, Nat.ne_of_gt hid]; rfl) rfl (by simp only[ln, hfs21];omega) (by kernel_rfl) (by intro k f hk hex; simp only [List.mem_cons, List.not_mem_nil, or_false] at hex; rcases hex with rfl | rfl | rfl <;> (simp [List.getElem?_append, hfs21] at hk; subst hk; refine ⟨?_, by first | omega | (simp; done) | (simp; omega)⟩; simp [qids, asksB, Op.operands, Call.operands, topId, numS, numI, Wd, hfq22, hfq23, hfq24, g2, g6, Nat.ne_of_gt hid]; try omega)) ?_
     try simp only []
     refine DQ.asg1 _ rfl rfl ?_
     simp only [updo]
     refine hK20 _ ?_
     refine .ret ?_
     exact hK _ _ _ _ trivial ((Fin.mk (r := .tup [numI (rdN L), .bool (decide (decB (rdN L) = L))]) (by simp (disch := omega) [aRes, aResL, aRes1, g2]; try rfl)).cast (by rw [hOk.1, hOk.2]))
  by_cases h0 : T = []
  ·have hT0 : T.length = 0 := by rw [h0]; rfl
   refine .r ?_ (by simp (disch := first|omega|(simp only[ln];omega)) [g0a, g4a, szT, hT0]; rfl)
   refine J5 _ ?_
   refine ⟨?_, ?_, ?_, ?_, ?_, ?_, ?_, ?_, rfl⟩ <;> first|(simp (disch := omega) [g0a, g2a, g3a, g5a, g4a, Hza, h0];done)|omega|(simp;omega)
  ·have hT0 : ((T.length : Int) == 0) = false := by simp [h0]
   refine .r ?_ (by simp (disch := first|omega|(simp only[ln];omega)) [g0a, g4a, szT, szL, hT0]; rfl)
   refine J5 _ ?_
   refine ⟨?_, ?_, ?_, ?_, ?_, ?_, ?_, ?_, rfl⟩ <;> first|(simp (disch := omega) [g0a, g2a, g3a, g5a, g4a, Hza, h0];done)|omega|(simp (disch := omega) [g0a, g2a, g3a, g5a, g4a, Hza, h0];omega)
 refine .sq fun K25 hK25 => ?_
 have J25 : ∀ s : St, (s.env 0 = .str (strOfNums L) ∧ s.env 2 = .ptr nx 0 0 ∧ s.env 3 = .bool false ∧ s.env 4 = .str (strOfNums L) ∧ s.env 5 = .bool false ∧ s.env 16 = .bool (rdS L) ∧ s.heap nx = some (2, [[.bool false, .nsl]]) ∧ nx < s.nx ∧ s.nt = 65) → K25 s := by
  rintro ⟨e, H, mm, nt⟩ ⟨g0, g2, g3, g4, g5, g16, Hz, xz, rfl⟩
  simp only [] at g0 g2 g3 g4 g5 g16 Hz xz
  refine hK25 _ ?_
  refine .c (t := rdS L) (fun h16 => ?_) (fun h16 => ?_) (by simp (disch := first|omega|(simp only[ln];omega)) [g16])
  ·try simp only[dc]at h16
   have hneg := rdT_neg h16
   have szN : 1 ≤ L.length := by rw [hneg]; simp
   have ex : (strOfNums L).extract 1 L.length = strOfNums (rdT L) := by
     rw [sn_ext]; congr 1; rw [List.take_length]
     exact (congrArg (List.drop 1) hneg).trans rfl
   refine .r ?_ (by simp (disch := first|omega|(simp only[ln];omega)) [if_pos, g0, szL, szN]; rfl)
   refine J3 _ ?_
   refine ⟨?_, ?_, ?_, ?_, ?_, ?_, ?_, rfl⟩ <;> first|(simp (disch := omega) [g0, g2, g3, g4, g5, g16, Hz, ex, szL, h16];done)|omega|(simp;omega)
  ·try simp only[dc]at h16
   have hS0 : rdS L = false := by simpa using h16
   have hpos := rdT_pos (L := L) (by rw [hS0]; simp)
   refine .skip ?_
   refine J3 _ ?_
   refine ⟨?_, ?_, ?_, ?_, ?_, ?_, ?_, rfl⟩ <;> first|(simp (disch := omega) [g0, g2, g3, g4, g5, g16, Hz, hpos, hS0];done)|omega|(simp;omega)
 rcases head3 L with ⟨hL, hT, hS⟩ | ⟨c, r, hL, hc, hT, hS⟩ | ⟨r, hL, hT, hS⟩
 ·have hL0 : L.length = 0 := by rw [hL]; rfl
  refine .r ?_ (by simp (disch := first|omega|(simp only[ln];omega)) [szL, hL0]; rfl)
  refine J25 _ ?_
  rw [hS]
  refine ⟨?_, ?_, ?_, ?_, ?_, ?_, ?_, ?_, rfl⟩ <;> first|(simp [hL];done)|omega|(simp;done)|(simp;omega)
 ·obtain ⟨x, e1, g1⟩ := sn_get hb (i := 0) (by rw [hL]; simp)
  have e2 := sn_at e1
  have szN : 0 < L.length := by rw [hL]; simp
  rw [show gt L 0 = c by rw [hL]; rfl] at g1
  refine .r ?_ (by simp (disch := first|omega|(simp only[ln];omega)) [szL, szN, e1, e2, g1]; rfl)
  refine J25 _ ?_
  rw [hS]
  refine ⟨?_, ?_, ?_, ?_, ?_, ?_, ?_, ?_, rfl⟩ <;> first|(simp [hc];done)|omega|(simp;done)|(simp;omega)
 ·obtain ⟨x, e1, g1⟩ := sn_get hb (i := 0) (by rw [hL]; simp)
  have e2 := sn_at e1
  have szN : 0 < L.length := by rw [hL]; simp
  rw [show gt L 0 = 45 by rw [hL]; rfl] at g1
  refine .r ?_ (by simp (disch := first|omega|(simp only[ln];omega)) [szL, szN, e1, e2, g1]; rfl)
  refine J25 _ ?_
  rw [hS]
  refine ⟨?_, ?_, ?_, ?_, ?_, ?_, ?_, ?_, rfl⟩ <;> first|(simp;done)|omega|(simp;omega)
end

end Go.Proofs.Ytgeecahbahgjbaa

/- Walks: texts cut; numbers in four words as texts. -/
namespace Go.Proofs.Ytgeecahbahgjbaa
open Go Go.RowKit
set_option linter.unusedSimpArgs false
set_option linter.unusedVariables false
set_option maxRecDepth 100000
attribute [local simp] szT3 byT3 agT3 unT3 zoT3 szT4 byT4 agT4 unT4 zoT4 szT9 byT9 agT9 stT9 zoT9 szT24 byT24 agT24 unT24 zoT24 szT26 byT26 agT26 flT26 fdT26_0 fdT26_1 fdT26_2 fdT26_3 zoT26 szT53 byT53 agT53 elT53 unT53 zoT53 szT55 byT55 agT55 flT55 fdT55_0 fdT55_1 zoT55

theorem nbIB : Bodyless Try.prog 87 Extern.BytealgIndexByte.indexByte := ⟨Try.f87, Try.func87, by kernel_rfl, by kernel_rfl, by kernel_rfl, by kernel_rfl⟩
theorem byt1 {c : Int} (hc : 0 ≤ c ∧ c < 256) : Byt [c] := fun x hx => by simp at hx; omega

theorem indexByte_fc (L : List Int) (c : Int) : FC Try.prog 82 [.str (strOfNums L), .int .u8 c] (.int .i64 (ixB L c : Int)) := by
 refine .b Try.func82 8 (fun nx K hK => ?_)
 refine .q ?_
 refine .sq fun K2 hK2 => ?_
 refine .region ?_
 refine .k 2 ?_
 refine .en (FE.indexByte nbIB L c) ?_
 refine .e ?_
 refine hK2 _ ?_
 refine .ret ?_
 exact hK _ _ _ _ trivial (Fin.m)
set_option maxHeartbeats 2000000 in
theorem index_fc (L : List Int) (hb : Byt L) (hl : L.length ≤ 9223372036854775800) (c : Int) (hc : 0 ≤ c ∧ c < 256) : FC Try.prog 64 [.str (strOfNums L), .str (strOfNums [c])] (.int .i64 (ixB L c : Int)) := by
 have szC := strOfNums_size [c]
 have eq1 := sn_beq (byt1 hc) hb
 refine .b Try.func64 143 (fun nx K hK => ?_)
 refine .q ?_
 refine .q ?_ (by simp (disch := first|omega|(simp only[ln];omega)) [szC]; rfl)
 refine .sq fun K3 hK3 => ?_
 refine .block ?_
 refine .q ?_ (by simp (disch := first|omega|(simp only[ln];omega)) [szC, eq1]; rfl)
 refine .c (t := decide ([c] = L)) (fun h16 => ?_) (fun h16 => ?_)
 ·try simp only[dc]at h16
  refine .q ?_
  refine .ret ?_
  exact hK _ _ _ _ trivial ((Fin.m).cast (by rw [← h16, ixB_cons hc hc, if_pos rfl]))
 ·try simp only[dc]at h16
  refine .q ?_ (by simp (disch := first|omega|(simp only[ln];omega)) [szC]; rfl)
  refine .c (t := true) (fun h24 => ?_) (fun h24 => ?_)
  ·try simp only[dc]at h24
   obtain ⟨x, e1, g1⟩ := sn_get (byt1 hc) (i := 0) (by simp)
   have e2 := sn_at e1
   rw [show gt [c] 0 = c from rfl] at g1
   refine .sq fun K7 hK7 => ?_
   refine .region ?_
   refine .kf 3 (indexByte_fc L c) hb82 ?_ (by simp (disch := first|omega|(simp only[ln];omega)) [List.take_succ_cons, List.take_zero, e1, e2, g1]; rfl) (ha := by simp (disch := first|omega|(simp only[ln];omega)) [idf_Wd', e1, e2, g1])
   refine .e ?_ (by simp (disch := first|omega|(simp only[ln];omega)) [e1, e2, g1]; rfl)
   refine hK7 _ ?_
   refine .ret ?_
   exact hK _ _ _ _ trivial ((Fin.m))
  ·simp at h24
set_option maxHeartbeats 2000000 in
theorem cutL_fc (L : List Int) (hb : Byt L) (hl : L.length ≤ 9223372036854775800) (c : Int) (hc : 0 ≤ c ∧ c < 256) : FC Try.prog 40 [.str (strOfNums L), .str (strOfNums [c])] (.tup [.str (strOfNums (ctA L c)), .str (strOfNums (ctB L c)), .bool (ctF L c)]) := by
 have szC := strOfNums_size [c]
 have szL := strOfNums_size L
 have rg := ixB_b hc hb
 refine .b Try.func40 23 (fun nx K hK => ?_)
 refine .q ?_
 refine .sq fun K2 hK2 => ?_
 refine .sq fun K3 hK3 => ?_
 refine .region ?_
 refine .kf 2 (index_fc L hb hl c hc) hb64 ?_
 refine .e ?_
 refine hK3 _ ?_
 refine .q ?_
 refine .c (t := decide (0 ≤ ixB L c)) (fun h12 => ?_) (fun h12 => ?_)
 ·try simp only[dc]at h12
  obtain ⟨i, hi⟩ : ∃ i : Nat, ixB L c = i := ⟨(ixB L c).toNat, by omega⟩
  have hct : ctF L c = true ∧ ctA L c = L.take i ∧ ctB L c = L.drop (i + 1) := by unfold ctF ctA ctB; rw [hi, if_pos (by omega), if_pos (by omega)]; exact ⟨by simp, rfl, rfl⟩
  have hin : i < L.length := by omega
  have x1 : (strOfNums L).extract 0 i = strOfNums (L.take i) := by rw [sn_ext, List.drop_zero]
  have x2 : (strOfNums L).extract (i + 1) L.length = strOfNums (L.drop (i + 1)) := by rw [sn_ext, List.take_length]
  have hi1 : ((i : Int) + 1).toNat = i + 1 := by omega
  have hi2 : i ≤ L.length := by omega
  refine .sq fun K5 hK5 => ?_
  refine .df 9 ?_ (by simp (disch := first|omega|(simp only[ln];omega)) [runDf.eq_def, runF1, runF2, stepF.eq_def, updo.eq_def, hupo.eq_def, opSto1.eq_def, if_pos, szC, szL, hi, x1, x2, hi1, hi2, hin]; rfl)
  refine hK5 _ ?_
  refine .ret ?_
  exact hK _ _ _ _ trivial ((Fin.m).cast (by rw [hct.1, hct.2.1, hct.2.2]))
 ·try simp only[dc]at h12
  have hct : ctF L c = false ∧ ctA L c = L ∧ ctB L c = [] := by unfold ctF ctA ctB; rw [if_neg h12, if_neg h12]; exact ⟨by simp; omega, rfl, rfl⟩
  refine .skip ?_
  refine hK2 _ ?_
  refine .q ?_
  refine .ret ?_
  exact hK _ _ _ _ trivial ((Fin.m).cast (by rw [hct.1, hct.2.1, hct.2.2]; rfl))
theorem cut_fc (L : List Int) (hb : Byt L) (hl : L.length ≤ 9223372036854775800) (c : Int) (hc : 0 ≤ c ∧ c < 256) : FC Try.prog 15 [.str (strOfNums L), .str (strOfNums [c])] (.tup [.str (strOfNums (ctA L c)), .str (strOfNums (ctB L c)), .bool (ctF L c)]) := by
 refine .b Try.func15 13 (fun nx K hK => ?_)
 refine .q ?_
 refine .sq fun K2 hK2 => ?_
 refine .region ?_
 refine .kf 2 (cutL_fc L hb hl c hc) hb40 ?_
 refine .e ?_
 refine hK2 _ ?_
 refine .ret ?_
 exact hK _ _ _ _ trivial ((Fin.m))
section
attribute [local simp] idf_numI cells_numI
theorem wideText_fc (x : W4) (ho : x.ok) : FC Try.prog 13 [.agg [.int .u64 (x).a, .int .u64 (x).b, .int .u64 (x).c, .int .u64 (x).d]] (.str (strOfNums (decB x.v))) := by
 obtain ⟨u0, u1, u2, u3⟩ := ho
 have wn : FC Try.prog 37 [.agg [.int .u64 (x).a, .int .u64 (x).b, .int .u64 (x).c, .int .u64 (x).d]] (numI x.v) := wideNum_fc x.a x.b x.c x.d u0 u1 u2 u3
 have bx : Bg 4 x.v := W4.bg ⟨u0, u1, u2, u3⟩
 have tx := numText_fc bx (by omega)
 refine .b Try.func13 6 (fun nx K hK => ?_)
 refine .q ?_
 refine .sq fun K2 hK2 => ?_
 refine .region ?_
 refine .kf 1 wn hb37 ?_
 refine .f tx hb38 ?_
 refine .e ?_
 refine hK2 _ ?_
 refine .ret ?_
 exact hK _ _ _ _ trivial ((Fin.m))
set_option maxHeartbeats 2000000 in
theorem readWide_fc (L : List Int) (hb : Byt L) (hl : L.length ≤ 9223372036854775800) : FC Try.prog 16 [.str (strOfNums L)] (.tup [.agg [.int .u64 (rwV L).a, .int .u64 (rwV L).b, .int .u64 (rwV L).c, .int .u64 (rwV L).d], .bool (rwB L)]) := by
 refine .b Try.func16 18 (fun nx K hK => ?_)
 refine .q ?_
 refine .sq fun K2 hK2 => ?_
 refine .region ?_
 refine .kf 1 (readNum_fc L hb (by omega)) hb41 ?_
 refine .e ?_
 refine hK2 _ ?_
 refine .sq fun K3 hK3 => ?_
 refine .q ?_
 refine .c (t := !rdB L) (fun h12 => ?_) (fun h12 => ?_)
 ·try simp only[dc]at h12
  have hr : rdB L = false := by simpa using h12
  have e1 : rwV L = ⟨0, 0, 0, 0⟩ := by unfold rwV; rw [hr]; rfl
  have e2 : rwB L = false := by unfold rwB; rw [hr]; rfl
  refine .q ?_
  refine .ret ?_
  exact hK _ _ _ _ trivial ((Fin.m).cast (by rw [e1, e2]))
 ·try simp only[dc]at h12
  have hr : rdB L = true := by simpa using h12
  have bI := rdI_bg L
  have wd := wide_fc bI (by omega)
  have e1 : rwV L = W4z (rdI L) := by unfold rwV; rw [if_pos hr]
  have e2 : rwB L = fits (rdI L) := by unfold rwB; rw [hr]; rfl
  rw [wdT_l] at wd
  unfold W4.l at wd
  refine .skip ?_
  refine hK3 _ ?_
  refine .sq fun K6 hK6 => ?_
  refine .region ?_
  refine .kf 1 wd hb39 ?_ (by simp (disch := first|omega|(simp only[ln];omega)) [List.take_succ_cons, List.take_zero, numI_fold]; rfl) (ha := by simp (disch := first|omega|(simp only[ln];omega)) [idf_Wd', numI_fold])
  refine .e ?_ (by simp (disch := first|omega|(simp only[ln];omega)) [numI_fold]; rfl)
  refine hK6 _ ?_
  refine .ret ?_
  exact hK _ _ _ _ trivial ((Fin.m).cast (by rw [e1, e2]))
end

end Go.Proofs.Ytgeecahbahgjbaa

/- Walks: ratios and points as texts, by the program. -/
namespace Go.Proofs.Ytgeecahbahgjbaa
open Go Go.RowKit
set_option linter.unusedSimpArgs false
set_option linter.unusedVariables false
set_option maxRecDepth 100000


theorem wideOf1_fc : FC Try.prog 14 [.int .i64 1] (.agg [.int .u64 (W4z 1).a, .int .u64 (W4z 1).b, .int .u64 (W4z 1).c, .int .u64 (W4z 1).d]) := by
  have h := wideOf_fc 1 (by omega) (by omega)
  rw [show wdZ 1 = wdT 1 from by unfold wdT; rw [if_pos (by decide)], wdT_l] at h
  exact h
theorem eqW4d (x y : W4) : eqW Try.prog 8 26 [.int .u64 (x).a, .int .u64 (x).b, .int .u64 (x).c, .int .u64 (x).d] [.int .u64 (y).a, .int .u64 (y).b, .int .u64 (y).c, .int .u64 (y).d] = some (decide (x = y)) := by
  rw [eqW4]; congr 1; rw [Bool.eq_iff_iff]; cases x; cases y; simp [and_assoc]
theorem s47 : ({ data := #[47] } : ByteArray) = strOfNums [47] := rfl
theorem s44 : ({ data := #[44] } : ByteArray) = strOfNums [44] := rfl
theorem s0 : ({ data := #[] } : ByteArray) = strOfNums [] := rfl
theorem decB_le {x : W4} (h : x.ok) : (decB x.v).length ≤ 100 := by
  have hb := W4.bg h
  refine decB_len (k := 99) (by omega) ?_
  unfold Bg at hb
  have : (18446744073709551616 : Nat) ^ 4 ≤ 10 ^ 99 := by decide
  omega



end Go.Proofs.Ytgeecahbahgjbaa

/- Walks: points as texts, by the program. -/
namespace Go.Proofs.Ytgeecahbahgjbaa
open Go Go.RowKit
set_option linter.unusedSimpArgs false
set_option linter.unusedVariables false
set_option maxRecDepth 100000
attribute [local simp] szT9 byT9 agT9 stT9 zoT9 szT24 byT24 agT24 unT24 zoT24 szT26 byT26 agT26 flT26 fdT26_0 fdT26_1 fdT26_2 fdT26_3 zoT26 szT28 byT28 agT28 flT28 fdT28_0 fdT28_1 fdT28_2 zoT28

set_option maxHeartbeats 2000000 in
theorem pointText_fc (p : Pt) (hp : p.ok) : FC Try.prog 6 [.agg [.int .u64 (p).x.a, .int .u64 (p).x.b, .int .u64 (p).x.c, .int .u64 (p).x.d, .int .u64 (p).y.a, .int .u64 (p).y.b, .int .u64 (p).y.c, .int .u64 (p).y.d, .int .u64 (p).w.a, .int .u64 (p).w.b, .int .u64 (p).w.c, .int .u64 (p).w.d]] (.str (strOfNums (ptT p))) := by
 obtain ⟨hx, hy, hw⟩ := hp
 have lx := decB_le hx
 have ly := decB_le hy
 have lw := decB_le hw
 have l1 : (decB p.x.v).length ≤ 9223372036854775806 := by omega
 have l2 : (decB p.x.v).length + 1 + (decB p.y.v).length ≤ 9223372036854775807 := by omega
 have l3 : (decB p.x.v).length + (1 + (decB p.y.v).length) ≤ 9223372036854775807 := by omega
 have l4 : 1 + (decB p.w.v).length ≤ 9223372036854775807 := by omega
 have l4' : (decB p.w.v).length + 1 ≤ 9223372036854775807 := by omega
 have l4'' : (decB p.w.v).length ≤ 9223372036854775806 := by omega
 obtain ⟨XY, hXY⟩ : ∃ XY, decB p.x.v ++ 44 :: decB p.y.v = XY := ⟨_, rfl⟩
 have lXY : XY.length ≤ 201 := by rw [← hXY]; simp; omega
 have l5 : XY.length + ((decB p.w.v).length + 1) ≤ 9223372036854775807 := by omega
 refine .b Try.func6 26 (fun nx K hK => ?_)
 refine .q ?_
 refine .sq fun K2 hK2 => ?_
 refine .sq fun K3 hK3 => ?_
 refine .region ?_
 refine .kf 1 (pointOkI_fc p ⟨hx, hy, hw⟩) hb9 ?_ (by simp (disch := first|omega|(simp only[ln];omega)) [List.take_succ_cons, List.take_zero, Pt.av, Pt.cells]; rfl) (ha := by simp (disch := first|omega|(simp only[ln];omega)) [idf_Wd', Pt.av, Pt.cells])
 refine .e ?_ (by simp (disch := first|omega|(simp only[ln];omega)) [Pt.av, Pt.cells]; rfl)
 refine hK3 _ ?_
 refine .c (t := !p.good) (fun h6 => ?_) (fun h6 => ?_)
 ·try simp only[dc]at h6
  have hT : ptT p = [] := by unfold ptT; rw [if_neg (by simpa using h6)]
  refine .q ?_
  refine .ret ?_
  exact hK _ _ _ _ trivial ((Fin.m).cast (by rw [hT]; rfl))
 ·try simp only[dc]at h6
  have hg : p.good = true := by simpa using h6
  refine .skip ?_
  refine hK2 _ ?_
  refine .sq fun K5 hK5 => ?_
  refine .d 8 ?_
  refine .k 2 (fun fs6 hfs6 => ?_) (by simp (disch := first|omega|(simp only[ln];omega)) [runDf.eq_def, runF1, runF2, stepF.eq_def, updo.eq_def, hupo.eq_def, opSto1.eq_def, List.take_succ_cons, List.take_zero, s47, s44, s0, sn_app, strOfNums_size, List.length_append, l1, l2, l3, hXY, List.append_assoc, List.cons_append, List.nil_append]; rfl)
  refine .f (wideText_fc p.x hx) hb13 ?_ (ha := by simp (disch := first|omega|(simp only[ln];omega)) [idf_Wd', s47, s44, s0, sn_app, strOfNums_size, List.length_append, l1, l2, l3, hXY, List.append_assoc, List.cons_append, List.nil_append])
  refine .k 3 (fun fs7 hfs7 => ?_) (by simp (disch := first|omega|(simp only[ln];omega)) [runDf.eq_def, runF1, runF2, stepF.eq_def, updo.eq_def, hupo.eq_def, opSto1.eq_def, List.take_succ_cons, List.take_zero, s47, s44, s0, sn_app, strOfNums_size, List.length_append, l1, l2, l3, hXY, List.append_assoc, List.cons_append, List.nil_append]; rfl)
  refine .f (wideText_fc p.y hy) hb13 ?_ (ha := by simp (disch := first|omega|(simp only[ln];omega)) [idf_Wd', s47, s44, s0, sn_app, strOfNums_size, List.length_append, l1, l2, l3, hXY, List.append_assoc, List.cons_append, List.nil_append])
  refine .k 1 (fun fs8 hfs8 => ?_) (by simp (disch := first|omega|(simp only[ln];omega)) [runDf.eq_def, runF1, runF2, stepF.eq_def, updo.eq_def, hupo.eq_def, opSto1.eq_def, List.take_succ_cons, List.take_zero, s47, s44, s0, sn_app, strOfNums_size, List.length_append, l1, l2, l3, hXY, List.append_assoc, List.cons_append, List.nil_append]; rfl)
  refine .r 8 (by simp only[ln, hfs6, hfs7, hfs8];omega) ?_ (by simp (disch := first|omega|(simp only[ln];omega)) [runDf.eq_def, runF1, runF2, stepF.eq_def, updo.eq_def, hupo.eq_def, opSto1.eq_def, s47, s44, s0, sn_app, strOfNums_size, List.length_append, l1, l2, l3, hXY, List.append_assoc, List.cons_append, List.nil_append]; rfl)
  refine hK5 _ ?_
  refine .sq fun K9 hK9 => ?_
  refine .sq fun K10 hK10 => ?_
  refine .d 4 ?_
  refine .k 2 (fun fs11 hfs11 => ?_) (by simp (disch := first|omega|(simp only[ln];omega)) [runDf.eq_def, runF1, runF2, stepF.eq_def, updo.eq_def, hupo.eq_def, opSto1.eq_def, List.take_succ_cons, List.take_zero, eqW4d]; rfl)
  refine .f wideOf1_fc hb14 ?_ (ha := by simp (disch := first|omega|(simp only[ln];omega)) [idf_Wd', eqW4d])
  refine .k 1 (fun fs12 hfs12 => ?_) (by simp (disch := first|omega|(simp only[ln];omega)) [runDf.eq_def, runF1, runF2, stepF.eq_def, updo.eq_def, hupo.eq_def, opSto1.eq_def, List.take_succ_cons, List.take_zero, eqW4d]; rfl)
  refine .r 4 (by simp only[ln, hfs11, hfs12];omega) ?_ (by simp (disch := first|omega|(simp only[ln];omega)) [runDf.eq_def, runF1, runF2, stepF.eq_def, updo.eq_def, hupo.eq_def, opSto1.eq_def, eqW4d]; rfl)
  refine hK10 _ ?_
  refine .c (t := !decide (p.w = W4z 1)) (fun h18 => ?_) (fun h18 => ?_)
  ·try simp only[dc]at h18
   have hne : ¬ p.w = W4z 1 := by simpa using h18
   have hT : ptT p = XY ++ 47 :: decB p.w.v := by unfold ptT; rw [if_pos hg, if_neg hne, hXY]
   refine .region ?_
   refine .kf 3 (wideText_fc p.w hw) hb13 ?_ (by simp (disch := first|omega|(simp only[ln];omega)) [List.take_succ_cons, List.take_zero, s47, s44, s0, sn_app, strOfNums_size, List.length_append, l4, l4', l4'', l5, List.cons_append, List.nil_append, List.length_cons]; rfl) (ha := by simp (disch := first|omega|(simp only[ln];omega)) [idf_Wd', s47, s44, s0, sn_app, strOfNums_size, List.length_append, l4, l4', l4'', l5, List.cons_append, List.nil_append, List.length_cons])
   refine .e ?_ (by simp (disch := first|omega|(simp only[ln];omega)) [s47, s44, s0, sn_app, strOfNums_size, List.length_append, l4, l4', l4'', l5, List.cons_append, List.nil_append, List.length_cons]; rfl)
   refine hK9 _ ?_
   refine .q ?_
   refine .ret ?_
   exact hK _ _ _ _ trivial ((Fin.m).cast (by rw [hT]))
  ·try simp only[dc]at h18
   have hne : p.w = W4z 1 := by simpa using h18
   have hT : ptT p = XY := by unfold ptT; rw [if_pos hg, if_pos hne, hXY, List.append_nil]
   refine .skip ?_
   refine hK9 _ ?_
   refine .q ?_
   refine .ret ?_
   exact hK _ _ _ _ trivial ((Fin.m).cast (by rw [hT]))
set_option maxHeartbeats 4000000 in
theorem readPoint_fc (L : List Int) (hb : Byt L) (hl : L.length ≤ 9223372036854775800) : FC Try.prog 7 [.str (strOfNums L)] (.tup [.agg [.int .u64 (rpV L).x.a, .int .u64 (rpV L).x.b, .int .u64 (rpV L).x.c, .int .u64 (rpV L).x.d, .int .u64 (rpV L).y.a, .int .u64 (rpV L).y.b, .int .u64 (rpV L).y.c, .int .u64 (rpV L).y.d, .int .u64 (rpV L).w.a, .int .u64 (rpV L).w.b, .int .u64 (rpV L).w.c, .int .u64 (rpV L).w.d], .bool (rpB L)]) := by
 refine .b Try.func7 65 (fun nx K hK => ?_)
 refine .q ?_
 refine .sq fun K2 hK2 => ?_
 refine .region ?_
 refine .kf 1 (cut_fc L hb hl 47 ne47) hb15 ?_ (by simp (disch := first|omega|(simp only[ln];omega)) [List.take_succ_cons, List.take_zero, s47]; rfl) (ha := by simp (disch := first|omega|(simp only[ln];omega)) [idf_Wd', s47])
 refine .e ?_ (by simp (disch := first|omega|(simp only[ln];omega)) [s47]; rfl)
 refine hK2 _ ?_
 refine .sq fun K3 hK3 => ?_
 refine .region ?_
 refine .kf 1 (cut_fc (ctA L 47) (ctA_byt hb _) (by have := ctA_len L 47; omega) 44 ne44) hb15 ?_ (by simp (disch := first|omega|(simp only[ln];omega)) [List.take_succ_cons, List.take_zero, s44]; rfl) (ha := by simp (disch := first|omega|(simp only[ln];omega)) [idf_Wd', s44])
 refine .e ?_ (by simp (disch := first|omega|(simp only[ln];omega)) [s44]; rfl)
 refine hK3 _ ?_
 refine .sq fun K4 hK4 => ?_
 refine .region ?_
 refine .f wideOf1_fc hb14 ?_
 refine .e ?_
 refine hK4 _ ?_
 refine .q ?_
 refine .sq fun K6 hK6 => ?_
 refine .region ?_
 refine .kf 1 (readWide_fc (ctA (ctA L 47) 44) (ctA_byt (ctA_byt hb _) _) (by have := ctA_len L 47; have := ctA_len (ctA L 47) 44; omega)) hb16 ?_
 refine .e ?_
 refine hK6 _ ?_
 refine .sq fun K7 hK7 => ?_
 refine .region ?_
 refine .kf 1 (readWide_fc (ctB (ctA L 47) 44) (ctB_byt (ctA_byt hb _) _) (by have := ctA_len L 47; have := ctB_len (ctA L 47) 44; omega)) hb16 ?_
 refine .e ?_
 refine hK7 _ ?_
 refine .sq fun K8 hK8 => ?_
 have J8 : ∀ s : St, (s.env 0 = .str (strOfNums L) ∧ s.env 2 = .ptr nx 0 0 ∧ s.env 10 = .ptr (nx + 1) 0 0 ∧ s.env 11 = .bool (rwB (ctA (ctA L 47) 44)) ∧ s.env 12 = .bool (rwB (ctB (ctA L 47) 44)) ∧ s.env 13 = .bool (if ctF L 47 = true then rwB (ctB L 47) else true) ∧ s.heap nx = some (12, [[.int .u64 0, .int .u64 0, .int .u64 0, .int .u64 0, .int .u64 0, .int .u64 0, .int .u64 0, .int .u64 0, .int .u64 0, .int .u64 0, .int .u64 0, .int .u64 0]]) ∧ nx < s.nx ∧ s.heap (nx + 1) = some (12, [[.int .u64 ((rpC L).x).a, .int .u64 ((rpC L).x).b, .int .u64 ((rpC L).x).c, .int .u64 ((rpC L).x).d, .int .u64 ((rpC L).y).a, .int .u64 ((rpC L).y).b, .int .u64 ((rpC L).y).c, .int .u64 ((rpC L).y).d, .int .u64 ((rpC L).w).a, .int .u64 ((rpC L).w).b, .int .u64 ((rpC L).w).c, .int .u64 ((rpC L).w).d]]) ∧ (nx + 1) < s.nx ∧ s.nt = 65) → K8 s := by
  rintro ⟨e, H, mm, nt⟩ ⟨g0, g2, g10, g11, g12, g13, Hz, xz, Hc, xc, rfl⟩
  simp only [] at g0 g2 g10 g11 g12 g13 Hz xz Hc xc
  refine hK8 _ ?_
  refine .sq fun K9 hK9 => ?_
  refine .sq fun K10 hK10 => ?_
  obtain ⟨ok3, hok3⟩ : ∃ b, (if ctF L 47 = true then rwB (ctB L 47) else true) = b := ⟨_, rfl⟩
  obtain ⟨ok1, hok1⟩ : ∃ b, rwB (ctA (ctA L 47) 44) = b := ⟨_, rfl⟩
  obtain ⟨ok2, hok2⟩ : ∃ b, rwB (ctB (ctA L 47) 44) = b := ⟨_, rfl⟩
  have hBB : rpB L = (ok1 && (ok2 && (ok3 && decide (ptT (rpC L) = L)))) := by unfold rpB; rw [hok1, hok2, hok3]
  rw [hok1] at g11
  rw [hok2] at g12
  rw [hok3] at g13
  clear hok1 hok2 hok3
  rcases (show ok1 = false ∨ (ok1 = true ∧ ok2 = false) ∨ (ok1 = true ∧ ok2 = true ∧ ok3 = false) ∨ (ok1 = true ∧ ok2 = true ∧ ok3 = true) by cases ok1 <;> cases ok2 <;> cases ok3 <;> simp) with rfl | ⟨rfl, rfl⟩ | ⟨rfl, rfl, rfl⟩ | ⟨rfl, rfl, rfl⟩
  ·refine .r ?_ (by simp (disch := first|omega|(simp only[ln];omega)) [g11]; rfl)
   refine hK10 _ ?_
   refine .c (t := true) (fun h62 => ?_) (fun h62 => ?_)
   ·try simp only[dc]at h62
    have hB : rpB L = false := by rw [hBB]; rfl
    refine .q ?_ (by simp (disch := first|omega|(simp only[ln];omega)) [g2, Hz]; rfl)
    refine .ret ?_
    exact hK _ _ _ _ trivial ((Fin.mk (r := .tup [.agg [.int .u64 0, .int .u64 0, .int .u64 0, .int .u64 0, .int .u64 0, .int .u64 0, .int .u64 0, .int .u64 0, .int .u64 0, .int .u64 0, .int .u64 0, .int .u64 0], .bool false]) (by simp (disch := omega) [aRes, aResL, aRes1, g2]; try rfl)).cast (by unfold rpV; rw [hB]; rfl))
   ·simp at h62
  ·refine .r ?_ (by simp (disch := first|omega|(simp only[ln];omega)) [g11, g12]; rfl)
   refine hK10 _ ?_
   refine .c (t := true) (fun h62 => ?_) (fun h62 => ?_)
   ·try simp only[dc]at h62
    have hB : rpB L = false := by rw [hBB]; rfl
    refine .q ?_ (by simp (disch := first|omega|(simp only[ln];omega)) [g2, Hz]; rfl)
    refine .ret ?_
    exact hK _ _ _ _ trivial ((Fin.mk (r := .tup [.agg [.int .u64 0, .int .u64 0, .int .u64 0, .int .u64 0, .int .u64 0, .int .u64 0, .int .u64 0, .int .u64 0, .int .u64 0, .int .u64 0, .int .u64 0, .int .u64 0], .bool false]) (by simp (disch := omega) [aRes, aResL, aRes1, g2]; try rfl)).cast (by unfold rpV; rw [hB]; rfl))
   ·simp at h62
  ·refine .r ?_ (by simp (disch := first|omega|(simp only[ln];omega)) [g11, g12, g13]; rfl)
   refine hK10 _ ?_
   refine .c (t := true) (fun h62 => ?_) (fun h62 => ?_)
   ·try simp only[dc]at h62
    have hB : rpB L = false := by rw [hBB]; rfl
    refine .q ?_ (by simp (disch := first|omega|(simp only[ln];omega)) [g2, Hz]; rfl)
    refine .ret ?_
    exact hK _ _ _ _ trivial ((Fin.mk (r := .tup [.agg [.int .u64 0, .int .u64 0, .int .u64 0, .int .u64 0, .int .u64 0, .int .u64 0, .int .u64 0, .int .u64 0, .int .u64 0, .int .u64 0, .int .u64 0, .int .u64 0], .bool false]) (by simp (disch := omega) [aRes, aResL, aRes1, g2]; try rfl)).cast (by unfold rpV; rw [hB]; rfl))
   ·simp at h62
  ·refine .region ?_
   refine .kf 12 (pointText_fc (rpC L) (rpC_ok L)) hb6 ?_ (by simp (disch := first|omega|(simp only[ln];omega)) [List.take_succ_cons, List.take_zero, g0, g10, g11, g12, g13, Hc, sn_beq (ptT_byt _) hb]; rfl) (ha := by simp (disch := first|omega|(simp only[ln];omega)) [idf_Wd', g0, g10, g11, g12, g13, Hc, sn_beq (ptT_byt _) hb])
   refine .e ?_ (by simp (disch := first|omega|(simp only[ln];omega)) [g0, g10, g11, g12, g13, Hc, sn_beq (ptT_byt _) hb]; rfl)
   refine hK10 _ ?_
   refine .c (t := !decide (ptT (rpC L) = L)) (fun h62 => ?_) (fun h62 => ?_)
   ·try simp only[dc]at h62
    have hB : rpB L = false := by rw [hBB]; simpa using h62
    refine .q ?_ (by simp (disch := first|omega|(simp only[ln];omega)) [g2, Hz]; rfl)
    refine .ret ?_
    exact hK _ _ _ _ trivial ((Fin.mk (r := .tup [.agg [.int .u64 0, .int .u64 0, .int .u64 0, .int .u64 0, .int .u64 0, .int .u64 0, .int .u64 0, .int .u64 0, .int .u64 0, .int .u64 0, .int .u64 0, .int .u64 0], .bool false]) (by simp (disch := omega) [aRes, aResL, aRes1, g2]; try rfl)).cast (by unfold rpV; rw [hB]; rfl))
   ·try simp only[dc]at h62
    have hB : rpB L = true := by rw [hBB]; simpa using h62
    have hV : rpV L = rpC L := by unfold rpV; rw [if_pos hB]
    refine .skip ?_
    refine hK9 _ ?_
    refine .q ?_ (by simp (disch := first|omega|(simp only[ln];omega)) [g2, g10, Hz, Hc]; rfl)
    refine .ret ?_
    exact hK _ _ _ _ trivial ((Fin.mk (r := .tup [.agg [.int .u64 ((rpC L).x).a, .int .u64 ((rpC L).x).b, .int .u64 ((rpC L).x).c, .int .u64 ((rpC L).x).d, .int .u64 ((rpC L).y).a, .int .u64 ((rpC L).y).b, .int .u64 ((rpC L).y).c, .int .u64 ((rpC L).y).d, .int .u64 ((rpC L).w).a, .int .u64 ((rpC L).w).b, .int .u64 ((rpC L).w).c, .int .u64 ((rpC L).w).d], .bool true]) (by simp (disch := omega) [aRes, aResL, aRes1, g2]; try rfl)).cast (by rw [hV, hB]))
 refine .q ?_
 refine .c (t := ctF L 47) (fun h40 => ?_) (fun h40 => ?_)
 ·try simp only[dc]at h40
  refine .region ?_
  refine .kf 1 (readWide_fc (ctB L 47) (ctB_byt hb _) (by have := ctB_len L 47; omega)) hb16 ?_
  refine .e ?_
  refine J8 _ ?_
  have e1 : (rpC L).x = rwV (ctA (ctA L 47) 44) := rfl
  have e3 : (rpC L).y = rwV (ctB (ctA L 47) 44) := rfl
  have e2 : (rpC L).w = rwV (ctB L 47) := by unfold rpC; simp only []; rw [if_pos h40]
  refine ⟨?_, ?_, ?_, ?_, ?_, ?_, ?_, ?_, ?_, ?_, rfl⟩ <;> first|(simp (disch := omega) [e1, e2, e3, h40];done)|omega|(simp;omega)
 ·try simp only[dc]at h40
  refine .skip ?_
  refine J8 _ ?_
  have hF : ctF L 47 = false := by simpa using h40
  have e1 : (rpC L).x = rwV (ctA (ctA L 47) 44) := rfl
  have e3 : (rpC L).y = rwV (ctB (ctA L 47) 44) := rfl
  have e2 : (rpC L).w = W4z 1 := by unfold rpC; simp only []; rw [hF]; rfl
  refine ⟨?_, ?_, ?_, ?_, ?_, ?_, ?_, ?_, ?_, ?_, rfl⟩ <;> first|(simp (disch := omega) [e1, e2, e3, hF];done)|omega|(simp;omega)

end Go.Proofs.Ytgeecahbahgjbaa

/- Walks: numbers in decimal, by the statements' program. -/
namespace Go.Proofs.Ytgeecahbahgjbaa
open Go Go.RowKit
set_option linter.unusedSimpArgs false
set_option linter.unusedVariables false
set_option maxRecDepth 100000
attribute [local simp] szT3 byT3 agT3 unT3 zoT3 szT4 byT4 agT4 unT4 zoT4 szT5 byT5 agT5 unT5 zoT5 szT9 byT9 agT9 stT9 zoT9 szT22 byT22 agT22 elT22 unT22 zoT22 szT24 byT24 agT24 unT24 zoT24 szT44 byT44 agT44 elT44 unT44 zoT44 szT46 byT46 agT46 flT46 fdT46_0 fdT46_1 zoT46 szT86 byT86 agT86 unT86 zoT86

theorem s45 : ({ data := #[45] } : ByteArray) = strOfNums [45] := rfl

section
attribute [local simp] idf_numS cells_numS
set_option maxHeartbeats 4000000 in
theorem l1Text_fc {k : Nat} {n : Int} (bn : Bg k n) (hk : k ≤ 1024) : FC Try.prog 19 [numS n] (.str (strOfNums (decB n))) := by
 have hn1 : n.natAbs < 10 ^ (20 * k) := Nat.lt_of_lt_of_le bn (pow_b k)
 have hdl : (decR n.natAbs).length ≤ 4096000000000 := by
   have := decD_len hn1
   unfold decR; rw [List.length_map]; omega
 clear hn1
 have dg_abs : dg ((n.natAbs : Nat) : Int) = dg n := by unfold dg; rw [Int.natAbs_natCast]
 have bl : ∀ m : Nat, m ≤ n.natAbs → (dg ((m : Nat) : Int)).length ≤ 2048 := fun m hm => by
   have : Bg k ((m : Nat) : Int) := by unfold Bg at *; rw [Int.natAbs_natCast]; omega
   have := this.len32; omega
 refine .b Try.func19 58 (fun nx K hK => ?_)
 refine .q ?_
 refine .sq fun K2 hK2 => ?_
 refine .q ?_ (by simp (disch := first|omega|(simp only[ln];omega)) [len_Wd (P := Try.prog) #[44] rfl elT44, numS]; rfl)
 refine .c (t := (((dg n).length : Int) == 0)) (fun h11 => ?_) (fun h11 => ?_)
 ·try simp only[dc]at h11
  have hn : n = 0 := dg_len0.1 (by have := beq_iff_eq.1 h11; omega)
  refine .q ?_
  refine .ret ?_
  exact hK _ _ _ _ trivial ((Fin.m).cast (by rw [hn]; rfl))
 ·try simp only[dc]at h11
  have hn : n ≠ 0 := fun h => by rw [h, dg_zero] at h11; simp at h11
  refine .skip ?_
  refine hK2 _ ?_
  refine .q ?_
  refine .q ?_
  refine .sq fun K7 hK7 => ?_
  refine .block ?_
  refine .loop (fun N s => ∃ (m : Nat) (c : List Int), N = m ∧ m ≤ n.natAbs ∧ (decR m).reverse ++ c = (decR n.natAbs).reverse ∧ Byt c ∧ s.env 1 = .ptr nx 0 0 ∧ s.env 3 = .str (strOfNums c) ∧ s.env 4 = Wd .u32 (dg ((m : Nat) : Int)) ∧ s.heap nx = some (2, [[.bool (decide (n < 0)), Wd .u32 (dg n)]]) ∧ nx < s.nx ∧ s.nt = 58) (n.natAbs) (by refine ⟨n.natAbs, [], rfl, Nat.le_refl _, by simp, (fun x hx => by simp at hx), ?_, ?_, ?_, ?_, ?_, rfl⟩ <;> first|(simp (disch := omega) [dg_abs];done)|omega|(simp [dg_abs];rfl)|(simp;omega)) ?_
  rintro N ⟨e, H, mm, nt⟩ ⟨m, c, hN, hm, hc, hcb, g1, g3, g4, Ha, xa, rfl⟩
  simp only [] at g1 g3 g4 Ha xa
  refine .sq fun K8 hK8 => ?_
  refine .q ?_ (by simp (disch := first|omega|(simp only[ln];omega)) [len_Wd (P := Try.prog) #[44] rfl elT44, g4]; rfl)
  refine .c (t := decide (0 < ((dg ((m : Nat) : Int)).length : Int))) (fun h16 => ?_) (fun h16 => ?_)
  ·try simp only[dc]at h16
   have hm0 : m ≠ 0 := fun h => by
     have := dg_len0.2 (show ((m : Nat) : Int) = 0 by omega)
     omega
   have hdr := decR_pos hm0
   have hWl := bl m hm
   have hWd := dg_dig ((m : Nat) : Int)
   have hWv := dg_val ((m : Nat) : Int)
   rw [Int.natAbs_natCast] at hWv
   generalize dg ((m : Nat) : Int) = W at *
   refine .skip ?_
   refine hK8 _ ?_
   refine .block ?_
   refine .q ?_ (by simp (disch := first|omega|(simp only[ln];omega)) [if_pos, len_Wd (P := Try.prog) #[44] rfl elT44, g4]; rfl)
   refine .q ?_
   refine .sq fun K12 hK12 => ?_
   refine .q ?_ (by simp (disch := first|omega|(simp only[ln];omega)) [len_Wd (P := Try.prog) #[44] rfl elT44, g4]; rfl)
   refine .block ?_
   refine .loop (fun N s => ∃ (j id : Nat) (Q : List Int) (r : Int), N = j ∧ j ≤ W.length ∧ Q.length = W.length ∧ Dig 4294967296 Q ∧ 0 ≤ r ∧ r < 10 ∧ val 4294967296 (W.drop j) = 10 * val 4294967296 (Q.drop j) + r ∧ nx < id ∧ s.env 1 = .ptr nx 0 0 ∧ s.env 3 = .str (strOfNums c) ∧ s.env 4 = Wd .u32 W ∧ s.env 5 = .osl id 0 W.length ∧ s.env 6 = .int .u64 r ∧ s.env 7 = .int .i64 ((j : Int) - 1) ∧ s.heap nx = some (2, [[.bool (decide (n < 0)), Wd .u32 (dg n)]]) ∧ nx < s.nx ∧ s.heap id = some (1, wd .u32 Q) ∧ id < s.nx ∧ s.nt = 58) (W.length) (by refine ⟨W.length, mm, List.replicate W.length 0, 0, rfl, Nat.le_refl _, by simp, Dig.replicate _ (by omega) (by omega), by omega, by omega, by simp [val], by omega, ?_, ?_, ?_, ?_, ?_, ?_, ?_, ?_, ?_, ?_, rfl⟩ <;> first|(simp (disch := omega) [g1, g3, g4, Ha, wd_replicate];done)|omega|(simp;omega)) ?_
   rintro N ⟨e, H, mm, nt⟩ ⟨j, id, Q, r, hN, hj, hQ, hQd, hr0, hr1, hv, hid, g1i, g3i, g4i, g5i, g6i, g7i, Hai, xai, Hoi, xoi, rfl⟩
   simp only [] at g1i g3i g4i g5i g6i g7i Hai xai Hoi xoi
   refine .sq fun K14 hK14 => ?_
   refine .q ?_ (by simp (disch := first|omega|(simp only[ln];omega)) [g7i]; rfl)
   refine .c (fun h24 => ?_) (fun h24 => ?_)
   ·try simp only[dc]at h24
    obtain ⟨p, rfl⟩ : ∃ p, j = p + 1 := ⟨j - 1, by omega⟩
    have hp : p < W.length := by omega
    have hp1 : ((p + 1 : Nat) : Int) - 1 = p := by omega
    have hgW := hWd.gt (by omega) p
    obtain ⟨x, hx⟩ : ∃ x, x = r * 4294967296 + gt W p := ⟨_, rfl⟩
    have hor : bits .or .u64 (r * 4294967296) (gt W p) = x := by rw [or_join2 (by omega) (by omega) hr0 (by omega), hx]
    have hts := ten_step hQ hp hr0 hv hx
    have td : Int.tdiv x 10 = x / 10 := Int.tdiv_eq_ediv_of_nonneg (by omega)
    have tm : Int.tmod x 10 = x % 10 := Int.tmod_eq_emod_of_nonneg (by omega)
    have w1 : IntKind.u64.wrap (r * 4294967296) = r * 4294967296 := wrap_u64s (by omega) (by omega)
    have w2 : IntKind.u64.wrap (gt W p) = gt W p := wrap_u64s (by omega) (by omega)
    have w3 : IntKind.u32.wrap (x / 10) = x / 10 := wrap_u32s (by omega) (by omega)
    have hpQ : p < Q.length := by omega
    refine .skip ?_
    refine hK14 _ ?_
    refine .sq fun K16 hK16 => ?_
    refine .block ?_
    refine .q ?_ (by simp (disch := first|omega|(simp only[ln];omega)) [idx_WdD (P := Try.prog) elT44 szT86, if_pos, g4i, g6i, g7i, hp1, hor, w1, w2, IntKind.bits, ld_ip agT86]; rfl)
    refine .q ?_ (by simp (disch := first|omega|(simp only[ln];omega)) [idx_WdD (P := Try.prog) elT44 szT86, if_pos, g5i, g6i, g7i, Hoi, hp1, td, w3, hpQ]; rfl)
    refine .r ?_ (by simp (disch := first|omega|(simp only[ln];omega)) [g6i, tm]; rfl)
    refine hK16 _ ?_
    refine .r ?_ (by simp (disch := first|omega|(simp only[ln];omega)) [g7i, hp1]; rfl)
    refine ⟨p, by omega, p, id, Q.set p (x / 10), x % 10, rfl, by omega, by simp [hQ], hQd.set p (by omega) (by omega), by omega, by omega, hts, hid, ?_, ?_, ?_, ?_, ?_, ?_, ?_, ?_, ?_, ?_, rfl⟩ <;> first|(simp (disch := omega) [g1i, g3i, g4i, g5i, g6i, g7i, Hai, Hoi, hp1, wd_set];done)|omega|(simp;done)|(simp;omega)|(simp (disch := omega) [g1i, g3i, g4i, g5i, g6i, g7i, Hai, Hoi, hp1, wd_set] <;> omega)
   ·try simp only[dc]at h24
    have hj0 : j = 0 := by omega
    subst hj0
    rw [List.drop_zero, List.drop_zero, hWv] at hv
    have hQv : 0 ≤ val 4294967296 Q := val_nonneg hQd
    have ten1 : val 4294967296 Q = ((m / 10 : Nat) : Int) := by omega
    have ten2 : r = ((m % 10 : Nat) : Int) := by omega
    have w8 : IntKind.u8.wrap (48 + r) = 48 + r := wrap_u8s (by omega) (by omega)
    have w9 : IntKind.u64.wrap (48 + r) = 48 + r := wrap_u64s (by omega) (by omega)
    have hcl : 1 + c.length ≤ 9223372036854775807 := by have := congrArg List.length hc; simp at this; omega
    refine .exit ?_
    refine hK12 _ ?_
    refine .sq fun K19 hK19 => ?_
    refine AWP.region ?_
    refine AOPS.runk 4 (by simp (disch := first|omega|(simp only[ln];omega)) [List.take_succ_cons, List.take_zero, g3i, g6i, Wd, numsOf_wd, sn_app, strOfNums_size, w8, w9, hcl]; rfl) ?_
    simp only [List.drop_succ_cons, List.drop_zero]
    refine AOPS.frz1 46 mm 1 (wd .u8 [48 + r]) (Wd .u8 [48 + r]) (by simp) (by simp; first | exact fz_wd rfl | exact isl_take_wd (by simp)) ?_
    refine AOPS.all (by simp (disch := first|omega|(simp only[ln];omega)) [List.take_succ_cons, List.take_zero, g3i, g6i, Wd, numsOf_wd, sn_app, strOfNums_size, w8, w9, hcl]; rfl) ?_
    refine hK19 _ ?_
    refine .region ?_
    refine .k 1 ?_ (by simp (disch := first|omega|(simp only[ln];omega)) [List.take_succ_cons, List.take_zero, g5i]; rfl)
    refine AOPS.frz1 50 id 1 (wd .u32 Q) (Wd .u32 Q) (by simp (disch := omega) [Hoi]) (by simp [g5i]; first | exact fz_wd hQ.symm | exact isl_take_wd (by omega)) ?_
    refine .f (l1Trim_fc false Q (by omega) hQd) hb46 ?_ (ha := by simp (disch := first|omega|(simp only[ln];omega)) [idf_Wd', g5i])
    refine .e ?_ (by simp (disch := first|omega|(simp only[ln];omega)) [g5i]; rfl)
    refine ⟨m / 10, by omega, m / 10, (48 + ((m % 10 : Nat) : Int)) :: c, rfl, by omega, by rw [← hc, hdr]; simp, byt_cons (by omega) hcb, ?_, ?_, ?_, ?_, ?_, rfl⟩ <;> first|(simp (disch := omega) [g1i, g3i, g4i, g5i, g6i, g7i, Hai, Hoi, sn_app, ten1, ten2, sg_false];done)|omega|(simp;done)|(simp;omega)
  ·try simp only[dc]at h16
   have hm0 : m = 0 := by
     have := (dg_len0 (z := ((m : Nat) : Int))).1 (by omega)
     omega
   subst hm0
   rw [decR_zero, List.reverse_nil, List.nil_append] at hc
   have hZ : decZ n.natAbs = decR n.natAbs := by unfold decZ; rw [if_neg (by omega)]
   have hcl : 1 + c.length ≤ 9223372036854775807 := by rw [hc, List.length_reverse]; omega
   refine .exit ?_
   refine hK7 _ ?_
   refine .sq fun K20 hK20 => ?_
   refine .q ?_ (by simp (disch := first|omega|(simp only[ln];omega)) [g1, Ha]; rfl)
   refine .c (t := decide (n < 0)) (fun h54 => ?_) (fun h54 => ?_)
   ·try simp only[dc]at h54
    have hT : decB n = 45 :: c := by rw [decB_neg h54, hZ, hc]
    have hcl2 : c.length ≤ 9223372036854775806 := by omega
    refine .q ?_ (by simp (disch := first|omega|(simp only[ln];omega)) [g3, s45, sn_app, strOfNums_size, hcl, hcl2, Nat.add_comm]; rfl)
    refine .ret ?_
    exact hK _ _ _ _ trivial ((Fin.m).cast (by rw [hT]))
   ·try simp only[dc]at h54
    have hT : decB n = c := by rw [decB_pos h54, hZ, hc]
    refine .skip ?_
    refine hK20 _ ?_
    refine .q ?_ (by simp (disch := first|omega|(simp only[ln];omega)) [g3]; rfl)
    refine .ret ?_
    exact hK _ _ _ _ trivial ((Fin.m).cast (by rw [hT]))
end

end Go.Proofs.Ytgeecahbahgjbaa

/- Walks: ratios and points as texts, by the statements' program. -/
namespace Go.Proofs.Ytgeecahbahgjbaa
open Go Go.RowKit
set_option linter.unusedSimpArgs false
set_option linter.unusedVariables false
set_option maxRecDepth 100000
attribute [local simp] szT2 byT2 agT2 unT2 zoT2 szT4 byT4 agT4 unT4 zoT4 szT9 byT9 agT9 stT9 zoT9 szT26 byT26 agT26 flT26 fdT26_0 fdT26_1 fdT26_2 fdT26_3 zoT26 szT28 byT28 agT28 flT28 fdT28_0 fdT28_1 fdT28_2 zoT28 szT44 byT44 agT44 elT44 unT44 zoT44 szT46 byT46 agT46 flT46 fdT46_0 fdT46_1 zoT46 szT48 byT48 agT48 flT48 fdT48_0 fdT48_1 fdT48_2 zoT48

theorem one_iff {x : W4} (h : x.ok) : x = W4z 1 ↔ x.v = 1 := by
  have hf : fits 1 = true := by decide
  constructor
  · intro e; rw [e]; exact W4z_v hf
  · intro e; rw [← W4z_of h, e]

section
attribute [local simp] Pt.av Pt.cells l3A l3C
set_option maxHeartbeats 2000000 in
theorem pointTextS_fc (p : Pt) (hp : p.ok) : FC Try.prog 8 [.agg [.int .u64 (p).x.a, .int .u64 (p).x.b, .int .u64 (p).x.c, .int .u64 (p).x.d, .int .u64 (p).y.a, .int .u64 (p).y.b, .int .u64 (p).y.c, .int .u64 (p).y.d, .int .u64 (p).w.a, .int .u64 (p).w.b, .int .u64 (p).w.c, .int .u64 (p).w.d]] (.str (strOfNums (ptT p))) := by
 obtain ⟨hx, hy, hw'⟩ := id hp
 have lx := decB_le hx
 have ly := decB_le hy
 have lw := decB_le hw'
 have l1 : (decB p.x.v).length ≤ 9223372036854775806 := by omega
 have l2 : (decB p.x.v).length + 1 + (decB p.y.v).length ≤ 9223372036854775807 := by omega
 have l3 : (decB p.x.v).length + (1 + (decB p.y.v).length) ≤ 9223372036854775807 := by omega
 obtain ⟨XY, hXY⟩ : ∃ XY, decB p.x.v ++ 44 :: decB p.y.v = XY := ⟨_, rfl⟩
 have lXY : XY.length ≤ 201 := by rw [← hXY]; simp; omega
 have l4 : XY.length ≤ 9223372036854775806 := by omega
 have l5 : XY.length + 1 + (decB p.w.v).length ≤ 9223372036854775807 := by omega
 have l6 : XY.length + (1 + (decB p.w.v).length) ≤ 9223372036854775807 := by omega
 have l7 : XY.length + ((decB p.w.v).length + 1) ≤ 9223372036854775807 := by omega
 have tx := l1Text_fc (W4.bg hx) (by omega)
 have ty := l1Text_fc (W4.bg hy) (by omega)
 have tw := l1Text_fc (W4.bg hw') (by omega)
 have cm := l1Cmp_fc (W4.bg hw') (Bg.i64 (by omega) (by omega) : Bg 1 (1 : Int)) (by omega) (by omega)
 obtain ⟨w, hw⟩ : ∃ w : Int, (if p.w.v < 1 then -1 else if p.w.v > 1 then 1 else 0) = w := ⟨_, rfl⟩
 rw [hw] at cm
 have hw0 : w = 0 ↔ p.w = W4z 1 := by
   rw [one_iff hw']; subst hw
   split
   · omega
   · split <;> omega
 refine .b Try.func8 30 (fun nx K hK => ?_)
 refine .q ?_
 refine .sq fun K2 hK2 => ?_
 refine .sq fun K3 hK3 => ?_
 refine .region ?_
 refine .kf 1 (pointOkS_fc p hp) hb17 ?_
 refine .e ?_
 refine hK3 _ ?_
 refine .c (t := !p.good) (fun h7 => ?_) (fun h7 => ?_)
 ·try simp only[dc]at h7
  have hT : ptT p = [] := by unfold ptT; rw [if_neg (by simpa using h7)]
  refine .q ?_
  refine .ret ?_
  exact hK _ _ _ _ trivial ((Fin.m).cast (by rw [hT]; rfl))
 ·try simp only[dc]at h7
  have hg : p.good = true := by simpa using h7
  refine .skip ?_
  refine hK2 _ ?_
  refine .sq fun K5 hK5 => ?_
  refine .region ?_
  refine .kf 1 (l3Of_fc p hp) hb18 ?_
  refine .e ?_
  refine hK5 _ ?_
  refine .sq fun K6 hK6 => ?_
  refine .d 8 ?_
  refine .k 2 (fun fs7 hfs7 => ?_) (by simp (disch := first|omega|(simp only[ln];omega)) [runDf.eq_def, runF1, runF2, stepF.eq_def, updo.eq_def, hupo.eq_def, opSto1.eq_def, List.take_succ_cons, List.take_zero, s47, s44, s0, sn_app, strOfNums_size, List.length_append, l1, l2, l3, hXY, numS_fold, List.append_assoc, List.cons_append, List.nil_append]; rfl)
  refine .f tx hb19 ?_ (ha := by simp (disch := first|omega|(simp only[ln];omega)) [idf_Wd', s47, s44, s0, sn_app, strOfNums_size, List.length_append, l1, l2, l3, hXY, numS_fold, List.append_assoc, List.cons_append, List.nil_append])
  refine .k 3 (fun fs8 hfs8 => ?_) (by simp (disch := first|omega|(simp only[ln];omega)) [runDf.eq_def, runF1, runF2, stepF.eq_def, updo.eq_def, hupo.eq_def, opSto1.eq_def, List.take_succ_cons, List.take_zero, s47, s44, s0, sn_app, strOfNums_size, List.length_append, l1, l2, l3, hXY, numS_fold, List.append_assoc, List.cons_append, List.nil_append]; rfl)
  refine .f ty hb19 ?_ (ha := by simp (disch := first|omega|(simp only[ln];omega)) [idf_Wd', s47, s44, s0, sn_app, strOfNums_size, List.length_append, l1, l2, l3, hXY, numS_fold, List.append_assoc, List.cons_append, List.nil_append])
  refine .k 1 (fun fs9 hfs9 => ?_) (by simp (disch := first|omega|(simp only[ln];omega)) [runDf.eq_def, runF1, runF2, stepF.eq_def, updo.eq_def, hupo.eq_def, opSto1.eq_def, List.take_succ_cons, List.take_zero, s47, s44, s0, sn_app, strOfNums_size, List.length_append, l1, l2, l3, hXY, numS_fold, List.append_assoc, List.cons_append, List.nil_append]; rfl)
  refine .r 8 (by simp only[ln, hfs7, hfs8, hfs9];omega) ?_ (by simp (disch := first|omega|(simp only[ln];omega)) [runDf.eq_def, runF1, runF2, stepF.eq_def, updo.eq_def, hupo.eq_def, opSto1.eq_def, s47, s44, s0, sn_app, strOfNums_size, List.length_append, l1, l2, l3, hXY, numS_fold, List.append_assoc, List.cons_append, List.nil_append]; rfl)
  refine hK6 _ ?_
  refine .sq fun K10 hK10 => ?_
  refine .sq fun K11 hK11 => ?_
  refine .d 5 ?_
  refine .k 2 (fun fs12 hfs12 => ?_) (by simp (disch := first|omega|(simp only[ln];omega)) [runDf.eq_def, runF1, runF2, stepF.eq_def, updo.eq_def, hupo.eq_def, opSto1.eq_def, List.take_succ_cons, List.take_zero, numS_fold]; rfl)
  refine .f (l1Int_fc 1 (by omega) (by omega)) hb21 ?_ (ha := by simp (disch := first|omega|(simp only[ln];omega)) [idf_Wd', numS_fold])
  refine .f cm hb20 ?_ (ha := by simp (disch := first|omega|(simp only[ln];omega)) [idf_Wd', numS_fold])
  refine .k 1 (fun fs13 hfs13 => ?_) (by simp (disch := first|omega|(simp only[ln];omega)) [runDf.eq_def, runF1, runF2, stepF.eq_def, updo.eq_def, hupo.eq_def, opSto1.eq_def, List.take_succ_cons, List.take_zero, numS_fold]; rfl)
  refine .r 5 (by simp only[ln, hfs12, hfs13];omega) ?_ (by simp (disch := first|omega|(simp only[ln];omega)) [runDf.eq_def, runF1, runF2, stepF.eq_def, updo.eq_def, hupo.eq_def, opSto1.eq_def, numS_fold]; rfl)
  refine hK11 _ ?_
  refine .c (t := w == 0) (fun h22 => ?_) (fun h22 => ?_)
  ·try simp only[dc]at h22
   have hd := hw0.1 (by simpa using h22)
   have hT : ptT p = XY := by unfold ptT; rw [if_pos hg, if_pos hd, hXY, List.append_nil]
   refine .q ?_
   refine .ret ?_
   exact hK _ _ _ _ trivial ((Fin.m).cast (by rw [hT]))
  ·try simp only[dc]at h22
   have hd : ¬ p.w = W4z 1 := fun h => by rw [hw0.2 h] at h22; simp at h22
   have hT : ptT p = XY ++ 47 :: decB p.w.v := by unfold ptT; rw [if_pos hg, if_neg hd, hXY]
   refine .skip ?_
   refine hK10 _ ?_
   refine .sq fun K15 hK15 => ?_
   refine .region ?_
   refine .kf 4 tw hb19 ?_ (by simp (disch := first|omega|(simp only[ln];omega)) [List.take_succ_cons, List.take_zero, s47, s44, s0, sn_app, strOfNums_size, List.length_append, l4, l5, l6, l7, numS_fold, List.append_assoc, List.cons_append, List.nil_append, List.length_cons, List.singleton_append]; rfl) (ha := by simp (disch := first|omega|(simp only[ln];omega)) [idf_Wd', s47, s44, s0, sn_app, strOfNums_size, List.length_append, l4, l5, l6, l7, numS_fold, List.append_assoc, List.cons_append, List.nil_append, List.length_cons, List.singleton_append])
   refine .e ?_ (by simp (disch := first|omega|(simp only[ln];omega)) [s47, s44, s0, sn_app, strOfNums_size, List.length_append, l4, l5, l6, l7, numS_fold, List.append_assoc, List.cons_append, List.nil_append, List.length_cons, List.singleton_append]; rfl)
   refine hK15 _ ?_
   refine .ret ?_
   exact hK _ _ _ _ trivial ((Fin.m).cast (by rw [hT]))
end

end Go.Proofs.Ytgeecahbahgjbaa

/- Walks: drawn texts. -/
namespace Go.Proofs.Ytgeecahbahgjbaa
open Go Go.RowKit
set_option linter.unusedSimpArgs false
set_option linter.unusedVariables false
set_option maxRecDepth 100000
attribute [local simp] szT3 byT3 agT3 unT3 zoT3 szT9 byT9 agT9 stT9 zoT9 szT26 byT26 agT26 flT26 fdT26_0 fdT26_1 fdT26_2 fdT26_3 zoT26 szT28 byT28 agT28 flT28 fdT28_0 fdT28_1 fdT28_2 zoT28 szT64 byT64 agT64 elT64 unT64 zoT64

def sR (l : List Int) : List AV := [.str (strOfNums l)]
def gLs (T : List (List Int)) (k : Nat) : List Int := T.getD k []
theorem sR_at {T : List (List Int)} {k : Nat} (h : k < T.length) : (T.map sR)[k]? = some [.str (strOfNums (gLs T k))] := by
  rw [List.getElem?_map, List.getElem?_eq_getElem h]
  unfold gLs; rw [List.getD_eq_getElem?_getD, List.getElem?_eq_getElem h]; rfl
theorem gLs_ok {T : List (List Int)} (h : ∀ l ∈ T, (∀ c ∈ l, (0 : Int) ≤ c ∧ c < 256) ∧ l.length ≤ 8) (k : Nat) : Byt (gLs T k) ∧ (gLs T k).length ≤ 8 := by
  unfold gLs; rw [List.getD_eq_getElem?_getD]
  cases hk : T[k]? with
  | none => exact ⟨fun c hc => by simp at hc, by simp⟩
  | some l => exact h l (List.mem_of_getElem? hk)
theorem ptT_len {p : Pt} (h : p.ok) : (ptT p).length ≤ 302 := by
  have h1 := decB_le h.1
  have h2 := decB_le h.2.1
  have h3 := decB_le h.2.2
  unfold ptT; split
  · split
    · simp; omega
    · simp; omega
  · simp
def tx3 : List (List Int) := [[47, 49], [47, 50], [44, 49], [48], [32]]
theorem tx3_ok : ∀ l ∈ tx3, (∀ c ∈ l, (0 : Int) ≤ c ∧ c < 256) ∧ l.length ≤ 8 := by decide
def tx4 : List (List Int) := [[50, 44, 52, 47, 50], [49, 44, 50], [45, 49, 44, 48, 47, 51], [44], [49, 44, 50, 47, 45, 51], [49, 47, 50, 44, 51], [48, 44, 48, 47, 50], []]
theorem tx4_ok : ∀ l ∈ tx4, (∀ c ∈ l, (0 : Int) ≤ c ∧ c < 256) ∧ l.length ≤ 8 := by decide

set_option maxHeartbeats 4000000 in
theorem drawPointText_ac (l : List Int) (H0 : Heap) (nx : Nat) (dl : Dig 256 l) (hl : l.length ≤ 1048576) (hd : ∀ i q, H0 i = some q → i < nx) : ACall Try.prog 5 [Wd .u8 l] H0 nx (fun r H' nx' => (∃ a : Pt, a.ok ∧ r = .agg [.int .u64 (a).x.a, .int .u64 (a).x.b, .int .u64 (a).x.c, .int .u64 (a).x.d, .int .u64 (a).y.a, .int .u64 (a).y.b, .int .u64 (a).y.c, .int .u64 (a).y.d, .int .u64 (a).w.a, .int .u64 (a).w.b, .int .u64 (a).w.c, .int .u64 (a).w.d]) ∧ H' = H0 ∧ nx ≤ nx') := by
 refine .b Try.func5 8 fun K hK => ?_
 refine .q ?_
 refine .sq fun K2 hK2 => ?_
 refine .region ?_
 refine .k 1 ?_
 refine AOPS.old fun hold1 => ?_
 refine .a (open_ac l _ _) hb11 ?_
 rintro _ _ nx1 ⟨rfl, rfl, rfl⟩
 clear hold1
 obtain ⟨id, hid⟩ : ∃ id, id = nx + 1 := ⟨_, rfl⟩
 obtain ⟨p, hH⟩ : ∃ p : Nat, p = 0 := ⟨_, rfl⟩
 have hp : p ≤ l.length := by omega
 simp only []
 rw [← hid]
 refine .e ?_
 refine hK2 _ ?_
 refine .sq fun K3 hK3 => ?_
 refine .region ?_
 refine .k 1 ?_
 refine AOPS.old fun hold1 => ?_
 refine .a (point_ac l p id _ _ dl hl hp (by simp (disch := omega) [hH]) hold1) hb12 ?_
 rintro _ _ nx2 ⟨⟨x, rfl, xo⟩, ⟨p2, hp2, rfl⟩, hnx2⟩
 try simp only [] at hnx2
 clear hold1
 refine .e ?_
 refine hK3 _ ?_
 refine .ret ?_
 exact hK _ _ _ _ _ trivial ((Fin.mk (r := .agg [.int .u64 (x).x.a, .int .u64 (x).x.b, .int .u64 (x).x.c, .int .u64 (x).x.d, .int .u64 (x).y.a, .int .u64 (x).y.b, .int .u64 (x).y.c, .int .u64 (x).y.d, .int .u64 (x).w.a, .int .u64 (x).w.b, .int .u64 (x).w.c, .int .u64 (x).w.d]) (by simp (disch := omega) [aRes, aResL, aRes1]; try rfl)).restr (fun i => decide (i < nx))) (⟨⟨x, xo, rfl⟩, by simp (disch := first | omega | (simp; done) | (simp; omega)) [hrestr_in, hrestr_out, hrestr_all hd, hupd_same], by first | omega | (simp at *; omega)⟩)
set_option maxHeartbeats 4000000 in
theorem drawReadPoint_ac (l : List Int) (H0 : Heap) (nx : Nat) (dl : Dig 256 l) (hl : l.length ≤ 1048576) (hd : ∀ i q, H0 i = some q → i < nx) : ACall Try.prog 10 [Wd .u8 l] H0 nx (fun r H' nx' => (∃ L : List Int, Byt L ∧ L.length ≤ 400 ∧ r = .str (strOfNums L)) ∧ H' = H0 ∧ nx ≤ nx') := by
 refine .b Try.func10 29 fun K hK => ?_
 refine .q ?_
 refine .sq fun K2 hK2 => ?_
 refine .region ?_
 refine .k 1 ?_
 refine AOPS.old fun hold1 => ?_
 refine .a (open_ac l _ _) hb11 ?_
 rintro _ _ nx1 ⟨rfl, rfl, rfl⟩
 clear hold1
 obtain ⟨id, hid⟩ : ∃ id, id = nx := ⟨_, rfl⟩
 obtain ⟨p, hH⟩ : ∃ p : Nat, p = 0 := ⟨_, rfl⟩
 have hp : p ≤ l.length := by omega
 simp only []
 rw [← hid]
 refine .e ?_
 refine hK2 _ ?_
 refine .sq fun K3 hK3 => ?_
 refine .region ?_
 refine .k 1 ?_
 refine AOPS.old fun hold1 => ?_
 refine .a (point_ac l p id _ _ dl hl hp (by simp (disch := omega) [hH]) hold1) hb12 ?_
 rintro _ _ nx2 ⟨⟨x, rfl, xo⟩, ⟨p2, hp2, rfl⟩, hnx2⟩
 try simp only [] at hnx2
 clear hold1
 have tl := ptT_len xo
 have tb := ptT_byt x
 have tt := pointTextS_fc x xo
 generalize ptT x = X at *
 have hTc : ∀ T K, (∀ l ∈ T, (∀ c ∈ l, (0 : Int) ≤ c ∧ c < 256) ∧ l.length ≤ 8) → X.length + (gLs T K).length ≤ 9223372036854775807 := fun T K h => by have := (gLs_ok h K).2; omega
 refine .f tt hb8 ?_
 refine .e ?_
 refine hK3 _ ?_
 refine .sq fun K4 hK4 => ?_
 refine .sq fun K5 hK5 => ?_
 refine .region ?_
 refine .k 1 ?_
 refine AOPS.old fun hold1 => ?_
 refine .a (below_ac 8 (by omega) (by omega) l p2 id _ _ dl hl hp2 (by simp (disch := omega) [hH]) hold1) hb28 ?_
 rintro _ _ nx3 ⟨⟨k8, rfl, k80, k81⟩, ⟨p3, hp3, rfl⟩, hnx3⟩
 try simp only [] at hnx3
 clear hold1
 refine .nil ?_
 refine hK5 _ ?_
 refine .block ?_
 refine .q ?_
 refine .c (t := k8 == 0) (fun h12 => ?_) (fun h12 => ?_)
 ·try simp only[dc]at h12
  refine .sq fun K7 hK7 => ?_
  obtain ⟨T, hT0⟩ : ∃ T, tx3.map sR = T := ⟨_, rfl⟩
  have hTl : T.length = 5 := by rw [← hT0]; rfl
  have hTa : ∀ K, K < 5 → T[K]? = some [.str (strOfNums (gLs tx3 K))] := fun K h => by rw [← hT0]; exact sR_at h
  have hTb : ∀ (K : Nat) (h : K < T.length), T[K] = [.str (strOfNums (gLs tx3 K))] := fun K h => by
    have := hTa K (by omega)
    rw [List.getElem?_eq_getElem h] at this; exact Option.some.inj this
  refine .region ?_
  refine .k 3 ?_ (by simp (disch := first|omega|(simp only[ln];omega)) [List.take_succ_cons, List.take_zero, if_pos, s47, s0, sn_app, strOfNums_size, List.length_append, List.length_cons, List.length_nil, hTl, hTb, hTc _ _ tx3_ok]; rfl)
  refine AOPS.frz1 15 nx3 1 T (.isl T) (by simp; rw [← hT0]; rfl) (by simp [← hT0, tx3, sR]) ?_
  refine AOPS.old fun hold3 => ?_
  refine .a (below_ac 5 (by omega) (by omega) l p3 id _ _ dl hl hp3 (by simp (disch := omega) [hH]) hold3) hb28 ?_ (ha := by simp (disch := first|omega|(simp only[ln];omega)) [idf_Wd', if_pos, s47, s0, sn_app, strOfNums_size, List.length_append, List.length_cons, List.length_nil, hTl, hTb, hTc _ _ tx3_ok])
  rintro _ _ nx4 ⟨⟨kk, rfl, kk0, kk1⟩, ⟨p4, hp4, rfl⟩, hnx4⟩
  try simp only [] at hnx4
  clear hold3
  obtain ⟨K, rfl⟩ := Int.eq_ofNat_of_zero_le kk0
  have hKn : K < 5 := by omega
  obtain ⟨gb, gl⟩ := gLs_ok tx3_ok K
  refine .e ?_ (by simp (disch := first|omega|(simp only[ln];omega)) [if_pos, s47, s0, sn_app, strOfNums_size, List.length_append, List.length_cons, List.length_nil, hTl, hTb, hTc _ _ tx3_ok]; rfl)
  refine hK7 _ ?_
  refine .ret ?_
  exact hK _ _ _ _ _ trivial ((Fin.mk (r := .str (strOfNums (X ++ gLs tx3 K))) (by simp (disch := omega) [aRes, aResL, aRes1]; try rfl)).restr (fun i => decide (i < nx))) (⟨⟨X ++ gLs tx3 K, tb.app gb, by simp; omega, rfl⟩, by simp (disch := first | omega | (simp; done) | (simp; omega)) [hrestr_in, hrestr_out, hrestr_all hd, hupd_same], by first | omega | (simp at *; omega)⟩)
 ·try simp only[dc]at h12
  refine .q ?_
  refine .c (t := k8 == 1) (fun h21 => ?_) (fun h21 => ?_)
  ·try simp only[dc]at h21
   refine .sq fun K9 hK9 => ?_
   obtain ⟨T, hT0⟩ : ∃ T, tx4.map sR = T := ⟨_, rfl⟩
   have hTl : T.length = 8 := by rw [← hT0]; rfl
   have hTa : ∀ K, K < 8 → T[K]? = some [.str (strOfNums (gLs tx4 K))] := fun K h => by rw [← hT0]; exact sR_at h
   have hTb : ∀ (K : Nat) (h : K < T.length), T[K] = [.str (strOfNums (gLs tx4 K))] := fun K h => by
     have := hTa K (by omega)
     rw [List.getElem?_eq_getElem h] at this; exact Option.some.inj this
   refine .region ?_
   refine .k 2 ?_ (by simp (disch := first|omega|(simp only[ln];omega)) [List.take_succ_cons, List.take_zero, if_pos, s47, s0, sn_app, strOfNums_size, List.length_append, List.length_cons, List.length_nil, hTl, hTb]; rfl)
   refine AOPS.frz1 23 nx3 1 T (.isl T) (by simp; rw [← hT0]; rfl) (by simp [← hT0, tx4, sR]) ?_
   refine AOPS.old fun hold2 => ?_
   refine .a (below_ac 8 (by omega) (by omega) l p3 id _ _ dl hl hp3 (by simp (disch := omega) [hH]) hold2) hb28 ?_ (ha := by simp (disch := first|omega|(simp only[ln];omega)) [idf_Wd', if_pos, s47, s0, sn_app, strOfNums_size, List.length_append, List.length_cons, List.length_nil, hTl, hTb])
   rintro _ _ nx4 ⟨⟨kk, rfl, kk0, kk1⟩, ⟨p4, hp4, rfl⟩, hnx4⟩
   try simp only [] at hnx4
   clear hold2
   obtain ⟨K, rfl⟩ := Int.eq_ofNat_of_zero_le kk0
   have hKn : K < 8 := by omega
   obtain ⟨gb, gl⟩ := gLs_ok tx4_ok K
   refine .e ?_ (by simp (disch := first|omega|(simp only[ln];omega)) [if_pos, s47, s0, sn_app, strOfNums_size, List.length_append, List.length_cons, List.length_nil, hTl, hTb]; rfl)
   refine hK9 _ ?_
   refine .ret ?_
   exact hK _ _ _ _ _ trivial ((Fin.mk (r := .str (strOfNums (gLs tx4 K))) (by simp (disch := omega) [aRes, aResL, aRes1]; try rfl)).restr (fun i => decide (i < nx))) (⟨⟨gLs tx4 K, gb, by omega, rfl⟩, by simp (disch := first | omega | (simp; done) | (simp; omega)) [hrestr_in, hrestr_out, hrestr_all hd, hupd_same], by first | omega | (simp at *; omega)⟩)
  ·try simp only[dc]at h21
   refine .skip ?_
   refine hK4 _ ?_
   refine .q ?_
   refine .ret ?_
   exact hK _ _ _ _ _ trivial ((Fin.mk (r := .str (strOfNums (X))) (by simp (disch := omega) [aRes, aResL, aRes1]; try rfl)).restr (fun i => decide (i < nx))) (⟨⟨X, tb, by omega, rfl⟩, by simp (disch := first | omega | (simp; done) | (simp; omega)) [hrestr_in, hrestr_out, hrestr_all hd, hupd_same], by first | omega | (simp at *; omega)⟩)

end Go.Proofs.Ytgeecahbahgjbaa

/- Walks: FnRatioTexts, FnPointTexts, walked. -/
namespace Go.Proofs.Ytgeecahbahgjbaa
open Go Go.RowKit
set_option linter.unusedSimpArgs false
set_option linter.unusedVariables false
set_option maxRecDepth 100000
attribute [local simp] szT4 byT4 agT4 unT4 zoT4 szT9 byT9 agT9 stT9 zoT9 szT26 byT26 agT26 flT26 fdT26_0 fdT26_1 fdT26_2 fdT26_3 zoT26 szT28 byT28 agT28 flT28 fdT28_0 fdT28_1 fdT28_2 zoT28

theorem rpV_ok (L : List Int) : (rpV L).ok := by
  unfold rpV; split
  · exact rpC_ok L
  · exact ⟨by unfold W4.ok U64; simp, by unfold W4.ok U64; simp, by unfold W4.ok U64; simp⟩

section
attribute [local simp] Rt.av Rt.cells Pt.av Pt.cells
set_option maxHeartbeats 8000000 in
theorem fnPointTexts_fc (l : List Int) (dl : Dig 256 l) : FC Try.prog 3 [Wd .u8 l] (.bool true) := by
 refine .b Try.func3 54 (fun nx K hK => ?_)
 refine .q ?_
 refine .sq fun K2 hK2 => ?_
 refine .sq fun K3 hK3 => ?_
 refine .region ?_
 refine .kf 1 (big_fc l) hb4 ?_
 refine .nil ?_
 refine hK3 _ ?_
 refine .c (t := decide (1048576 < (l.length : Int))) (fun h11 => ?_) (fun h11 => ?_)
 ·try simp only[dc]at h11
  refine .q ?_
  refine .ret ?_
  exact hK _ _ _ _ trivial (Fin.m)
 ·try simp only[dc]at h11
  have hl : l.length ≤ 1048576 := by omega
  refine .skip ?_
  refine hK2 _ ?_
  refine .sq fun K5 hK5 => ?_
  refine .region ?_
  refine .k 1 ?_
  refine AOPS.old fun hold1 => ?_
  refine .a (drawPointText_ac l _ _ dl hl hold1) hb5 ?_
  rintro _ _ nx1 ⟨⟨a, ao, rfl⟩, rfl, hnx1⟩
  clear hold1
  have cI := pointText_fc a ao
  have cS := pointTextS_fc a ao
  have cO := pointOkI_fc a ao
  have cR := readPoint_fc (ptT a) (ptT_byt a) (by have := ptT_len ao; omega)
  refine .e ?_
  refine hK5 _ ?_
  refine .sq fun K6 hK6 => ?_
  refine .region ?_
  refine .kf 1 cI hb6 ?_
  refine .e ?_
  refine hK6 _ ?_
  refine .sq fun K7 hK7 => ?_
  refine .region ?_
  refine .kf 1 cR hb7 ?_
  refine .e ?_
  refine hK7 _ ?_
  refine .sq fun K8 hK8 => ?_
  refine .sq fun K9 hK9 => ?_
  cases hg : a.good
  ·have hbad := pt_bad hg
   have ht : decide (ptT a = ptT a) = true := decide_eq_true rfl
   refine .region ?_
   refine .kf 2 cS hb8 ?_ (by simp (disch := first|omega|(simp only[ln];omega)) [List.take_succ_cons, List.take_zero, hg, hbad, sn_beq (ptT_byt a) (ptT_byt a), ht]; rfl) (ha := by simp (disch := first|omega|(simp only[ln];omega)) [idf_Wd', hg, hbad, sn_beq (ptT_byt a) (ptT_byt a), ht])
   refine .kf 4 cO hb9 ?_ (by simp (disch := first|omega|(simp only[ln];omega)) [List.take_succ_cons, List.take_zero, hg, hbad, sn_beq (ptT_byt a) (ptT_byt a), ht]; rfl) (ha := by simp (disch := first|omega|(simp only[ln];omega)) [idf_Wd', hg, hbad, sn_beq (ptT_byt a) (ptT_byt a), ht])
   refine .e ?_ (by simp (disch := first|omega|(simp only[ln];omega)) [hg, hbad, sn_beq (ptT_byt a) (ptT_byt a), ht]; rfl)
   refine hK9 _ ?_
   refine .c (t := false) (fun h38 => ?_) (fun h38 => ?_)
   ·simp at h38
   ·try simp only[dc]at h38
    refine .skip ?_
    refine hK8 _ ?_
    refine .sq fun K10 hK10 => ?_
    refine .region ?_
    refine .k 1 ?_
    refine AOPS.old fun hold1 => ?_
    refine .a (drawReadPoint_ac l _ _ dl hl hold1) hb10 ?_
    rintro _ _ nx2 ⟨⟨L, Lb, Ll, rfl⟩, rfl, hnx2⟩
    clear hold1
    have cR2 := readPoint_fc L Lb (by omega)
    refine .e ?_
    refine hK10 _ ?_
    refine .sq fun K11 hK11 => ?_
    refine .region ?_
    refine .kf 1 cR2 hb7 ?_
    refine .e ?_
    refine hK11 _ ?_
    refine .sq fun K12 hK12 => ?_
    cases hB : rpB L
    ·refine .r ?_ (by simp (disch := first|omega|(simp only[ln];omega)) [hB]; rfl)
     refine hK12 _ ?_
     refine .ret ?_
     exact hK _ _ _ _ trivial ((Fin.m))
    ·have hX := rp_text hB
     have cT := pointText_fc (rpV L) (rpV_ok L)
     rw [hX] at cT
     have hq : decide (L = L) = true := decide_eq_true rfl
     refine .region ?_
     refine .kf 4 cT hb6 ?_ (by simp (disch := first|omega|(simp only[ln];omega)) [List.take_succ_cons, List.take_zero, hB, sn_beq Lb Lb, hq]; rfl) (ha := by simp (disch := first|omega|(simp only[ln];omega)) [idf_Wd', hB, sn_beq Lb Lb, hq])
     refine .e ?_ (by simp (disch := first|omega|(simp only[ln];omega)) [hB, sn_beq Lb Lb, hq]; rfl)
     refine hK12 _ ?_
     refine .ret ?_
     exact hK _ _ _ _ trivial ((Fin.m))
  ·obtain ⟨hv1, hv2⟩ := pt_read ao hg
   have ht : decide (ptT a = ptT a) = true := decide_eq_true rfl
   have hr : decide (a = a) = true := decide_eq_true rfl
   refine .region ?_
   refine .kf 2 cS hb8 ?_ (by simp (disch := first|omega|(simp only[ln];omega)) [List.take_succ_cons, List.take_zero, hg, hv1, hv2, sn_beq (ptT_byt a) (ptT_byt a), ht, eqPt]; rfl) (ha := by simp (disch := first|omega|(simp only[ln];omega)) [idf_Wd', hg, hv1, hv2, sn_beq (ptT_byt a) (ptT_byt a), ht, eqPt])
   refine .kf 4 cO hb9 ?_ (by simp (disch := first|omega|(simp only[ln];omega)) [List.take_succ_cons, List.take_zero, hg, hv1, hv2, sn_beq (ptT_byt a) (ptT_byt a), ht, eqPt]; rfl) (ha := by simp (disch := first|omega|(simp only[ln];omega)) [idf_Wd', hg, hv1, hv2, sn_beq (ptT_byt a) (ptT_byt a), ht, eqPt])
   refine .e ?_ (by simp (disch := first|omega|(simp only[ln];omega)) [hg, hv1, hv2, sn_beq (ptT_byt a) (ptT_byt a), ht, eqPt]; rfl)
   refine hK9 _ ?_
   refine .c (t := false) (fun h38 => ?_) (fun h38 => ?_)
   ·simp at h38
   ·try simp only[dc]at h38
    refine .skip ?_
    refine hK8 _ ?_
    refine .sq fun K13 hK13 => ?_
    refine .region ?_
    refine .k 1 ?_
    refine AOPS.old fun hold1 => ?_
    refine .a (drawReadPoint_ac l _ _ dl hl hold1) hb10 ?_
    rintro _ _ nx2 ⟨⟨L, Lb, Ll, rfl⟩, rfl, hnx2⟩
    clear hold1
    have cR2 := readPoint_fc L Lb (by omega)
    refine .e ?_
    refine hK13 _ ?_
    refine .sq fun K14 hK14 => ?_
    refine .region ?_
    refine .kf 1 cR2 hb7 ?_
    refine .e ?_
    refine hK14 _ ?_
    refine .sq fun K15 hK15 => ?_
    cases hB : rpB L
    ·refine .r ?_ (by simp (disch := first|omega|(simp only[ln];omega)) [hB]; rfl)
     refine hK15 _ ?_
     refine .ret ?_
     exact hK _ _ _ _ trivial ((Fin.m))
    ·have hX := rp_text hB
     have cT := pointText_fc (rpV L) (rpV_ok L)
     rw [hX] at cT
     have hq : decide (L = L) = true := decide_eq_true rfl
     refine .region ?_
     refine .kf 4 cT hb6 ?_ (by simp (disch := first|omega|(simp only[ln];omega)) [List.take_succ_cons, List.take_zero, hB, sn_beq Lb Lb, hq]; rfl) (ha := by simp (disch := first|omega|(simp only[ln];omega)) [idf_Wd', hB, sn_beq Lb Lb, hq])
     refine .e ?_ (by simp (disch := first|omega|(simp only[ln];omega)) [hB, sn_beq Lb Lb, hq]; rfl)
     refine hK15 _ ?_
     refine .ret ?_
     exact hK _ _ _ _ trivial ((Fin.m))
end

end Go.Proofs.Ytgeecahbahgjbaa
