/- Walks: points made by the reference. -/
import Derived.Test.YtmaebeknmiomnaaG0Z

namespace Go.Proofs.Ytmaebeknmiomnaa
open Go Go.RowKit
set_option linter.unusedSimpArgs false
set_option linter.unusedVariables false
set_option maxRecDepth 100000
attribute [local simp] szT2 byT2 agT2 unT2 zoT2 szT4 byT4 agT4 unT4 zoT4 szT24 byT24 agT24 unT24 zoT24 szT26 byT26 agT26 flT26 fdT26_0 fdT26_1 fdT26_2 fdT26_3 zoT26 szT28 byT28 agT28 flT28 fdT28_0 fdT28_1 fdT28_2 zoT28 szT67 byT67 agT67 flT67 fdT67_0 fdT67_1 zoT67 szT111 byT111 agT111 elT111 unT111 zoT111 szT113 byT113 agT113 flT113 fdT113_0 fdT113_1 zoT113 szT115 byT115 agT115 flT115 fdT115_0 fdT115_1 fdT115_2 zoT115 szT225 byT225 agT225 unT225 zoT225

section
attribute [local simp] idf_numS cells_numS numS_fold
set_option maxHeartbeats 2000000 in
theorem l1Div_fc {j : Nat} (a b : Int) (hb0 : b ≠ 0) (ha : Bg j a) (hb : Bg j b) (hj : j ≤ 16777216) : FC Try.prog 194 [numS a, numS b] (.tup [numS (a / b), numS (a % b)]) := by
 have hD := l1DivAbs_fc a.natAbs b.natAbs (by omega) ha.abs hb.abs hj
 rw [dg_abs, dg_abs] at hD
 have eu := eu_lem a b hb0
 generalize hq : ((a.natAbs / b.natAbs : Nat) : Int) = q0 at *
 generalize hr : ((a.natAbs % b.natAbs : Nat) : Int) = r0 at *
 have q0n : 0 ≤ q0 := by rw [← hq]; exact Int.natCast_nonneg _
 have r0n : 0 ≤ r0 := by rw [← hr]; exact Int.natCast_nonneg _
 have bq : Bg j q0 := by
   rw [← hq]; unfold Bg at *; rw [Int.natAbs_natCast]; have := Nat.div_le_self a.natAbs b.natAbs; omega
 have br : Bg j r0 := by
   rw [← hr]; unfold Bg at *; rw [Int.natAbs_natCast]; have := Nat.mod_le a.natAbs b.natAbs; omega
 have bqs : ∀ s, Bg j (sg s q0) := fun s => by cases s <;> simp only [sg_true, sg_false]; exact bq; exact bq.neg
 have brs : ∀ s, Bg j (sg s r0) := fun s => by cases s <;> simp only [sg_true, sg_false]; exact br; exact br.neg
 have lq := bq.len32
 have lr := br.len32
 have hT1 := l1Trim_fc (decide (a < 0) != decide (b < 0)) (dg q0) (by omega) (dg_dig _)
 rw [dg_val, Int.natAbs_of_nonneg q0n] at hT1
 have hT2 := l1Trim_fc (decide (a < 0)) (dg r0) (by omega) (dg_dig _)
 rw [dg_val, Int.natAbs_of_nonneg r0n] at hT2
 obtain ⟨S, hS⟩ : ∃ S, (decide (a < 0) != decide (b < 0)) = S := ⟨_, rfl⟩
 have hS2 : (decide (a < 0) == decide (b < 0)) = !S := by rw [← hS]; cases decide (a < 0) <;> cases decide (b < 0) <;> rfl
 rw [hS] at eu hT1
 refine .b Try.func194 47 (fun nx K hK => ?_)
 refine .q ?_
 refine .sq fun K2 hK2 => ?_
 refine .region ?_
 refine .kf 4 hD hb212 ?_
 refine .e ?_
 refine hK2 _ ?_
 refine .sq fun K3 hK3 => ?_
 refine .region ?_
 refine .kf 6 hT1 hb195 ?_ (by simp (disch := first|omega|(simp only[ln];omega)) [List.take_succ_cons, List.take_zero, hS2]; rfl) (ha := by simp (disch := first|omega|(simp only[ln];omega)) [idf_Wd', hS2])
 refine .e ?_ (by simp (disch := first|omega|(simp only[ln];omega)) [hS2]; rfl)
 refine hK3 _ ?_
 refine .sq fun K4 hK4 => ?_
 refine .region ?_
 refine .kf 3 hT2 hb195 ?_
 refine .e ?_
 refine hK4 _ ?_
 refine .sq fun K5 hK5 => ?_
 refine .q ?_
 refine .c (t := decide (sg (decide (a < 0)) r0 < 0)) (fun h30 => ?_) (fun h30 => ?_)
 ·try simp only[dc]at h30
  refine .q ?_
  refine .c (t := decide (b < 0)) (fun h32 => ?_) (fun h32 => ?_)
  ·try simp only[dc]at h32
   have e := eu.2.1 h30 h32
   refine .sq fun K8 hK8 => ?_
   refine .d 3 ?_
   refine .k 1 (fun fs9 hfs9 => ?_)
   refine .f (l1Int_fc 1 (by omega) (by omega)) hb106 ?_
   refine .f (l1Add_fc (bqs S) (Bg.i64 (n := 1) (by omega) (by omega)) (by omega) (by omega)) hb104 ?_
   refine .r 3 (by simp only[ln, hfs9];omega) ?_
   refine hK8 _ ?_
   refine .region ?_
   refine .kf 2 (l1Sub_fc (brs (decide (a < 0))) hb (by omega) (by omega)) hb202 ?_
   refine .e ?_
   refine hK5 _ ?_
   refine .sq fun K10 hK10 => ?_
   refine .old fun hold => ?_
   refine .d 2 ?_
   refine .k 1 (fun fs11 hfs11 => ?_)
   refine DP.runF1q (by simp (disch := first|omega|(simp only[ln];omega)) [runDf.eq_def, runF1, runF2, stepF.eq_def, updo.eq_def, hupo.eq_def, opSto1.eq_def]; rfl) fun fq12 hfq12 => ?_
   simp [qids, asksB, Op.operands, topId] at hfq12
   simp only [updo]
   refine DQ.sto1 (m := 2) [1] _ (by simp (disch := first|omega|(simp only[ln];omega)) [runDf.eq_def, runF1, runF2, stepF.eq_def, updo.eq_def, hupo.eq_def, opSto1.eq_def]; rfl) rfl (by simp only[ln, hfs11];omega) (by kernel_rfl) (by intro k f hk hex; simp only [List.mem_cons, List.not_mem_nil, or_false] at hex; rcases hex with rfl <;> (simp [List.getElem?_append, hfs11] at hk; subst hk; refine ⟨?_, by first | omega | (simp; done) | (simp; omega)⟩; simp [qids, asksB, Op.operands, Call.operands, topId, numS, numI, Wd, hfq12]; try omega)) ?_
   try simp only []
   refine DQ.sto1 (m := 2) [] _ (by simp (disch := first|omega|(simp only[ln];omega)) [runDf.eq_def, runF1, runF2, stepF.eq_def, updo.eq_def, hupo.eq_def, opSto1.eq_def]; rfl) rfl (by simp only[ln, hfs11];omega) (by kernel_rfl) (by intro k f hk hex; simp only [List.not_mem_nil] at hex) ?_
   try simp only []
   refine hK10 _ ?_
   refine .ret ?_
   exact hK _ _ _ _ trivial ((Fin.m).cast (by rw [e.1, e.2]))
  ·try simp only[dc]at h32
   have e := eu.2.2 h30 h32
   refine .sq fun K13 hK13 => ?_
   refine .d 3 ?_
   refine .k 1 (fun fs14 hfs14 => ?_)
   refine .f (l1Int_fc 1 (by omega) (by omega)) hb106 ?_
   refine .f (l1Sub_fc (bqs S) (Bg.i64 (n := 1) (by omega) (by omega)) (by omega) (by omega)) hb202 ?_
   refine .r 3 (by simp only[ln, hfs14];omega) ?_
   refine hK13 _ ?_
   refine .region ?_
   refine .kf 2 (l1Add_fc (brs (decide (a < 0))) hb (by omega) (by omega)) hb104 ?_
   refine .e ?_
   refine hK5 _ ?_
   refine .sq fun K15 hK15 => ?_
   refine .old fun hold => ?_
   refine .d 2 ?_
   refine .k 1 (fun fs16 hfs16 => ?_)
   refine DP.runF1q (by simp (disch := first|omega|(simp only[ln];omega)) [runDf.eq_def, runF1, runF2, stepF.eq_def, updo.eq_def, hupo.eq_def, opSto1.eq_def]; rfl) fun fq17 hfq17 => ?_
   simp [qids, asksB, Op.operands, topId] at hfq17
   simp only [updo]
   refine DQ.sto1 (m := 2) [1] _ (by simp (disch := first|omega|(simp only[ln];omega)) [runDf.eq_def, runF1, runF2, stepF.eq_def, updo.eq_def, hupo.eq_def, opSto1.eq_def]; rfl) rfl (by simp only[ln, hfs16];omega) (by kernel_rfl) (by intro k f hk hex; simp only [List.mem_cons, List.not_mem_nil, or_false] at hex; rcases hex with rfl <;> (simp [List.getElem?_append, hfs16] at hk; subst hk; refine ⟨?_, by first | omega | (simp; done) | (simp; omega)⟩; simp [qids, asksB, Op.operands, Call.operands, topId, numS, numI, Wd, hfq17]; try omega)) ?_
   try simp only []
   refine DQ.sto1 (m := 2) [] _ (by simp (disch := first|omega|(simp only[ln];omega)) [runDf.eq_def, runF1, runF2, stepF.eq_def, updo.eq_def, hupo.eq_def, opSto1.eq_def]; rfl) rfl (by simp only[ln, hfs16];omega) (by kernel_rfl) (by intro k f hk hex; simp only [List.not_mem_nil] at hex) ?_
   try simp only []
   refine hK15 _ ?_
   refine .ret ?_
   exact hK _ _ _ _ trivial ((Fin.m).cast (by rw [e.1, e.2]))
 ·try simp only[dc]at h30
  have e := eu.1 h30
  refine .skip ?_
  refine hK5 _ ?_
  refine .sq fun K18 hK18 => ?_
  refine .old fun hold => ?_
  refine .d 2 ?_
  refine .k 1 (fun fs19 hfs19 => ?_)
  refine DP.runF1q (by simp (disch := first|omega|(simp only[ln];omega)) [runDf.eq_def, runF1, runF2, stepF.eq_def, updo.eq_def, hupo.eq_def, opSto1.eq_def]; rfl) fun fq20 hfq20 => ?_
  simp [qids, asksB, Op.operands, topId] at hfq20
  simp only [updo]
  refine DQ.sto1 (m := 2) [1] _ (by simp (disch := first|omega|(simp only[ln];omega)) [runDf.eq_def, runF1, runF2, stepF.eq_def, updo.eq_def, hupo.eq_def, opSto1.eq_def]; rfl) rfl (by simp only[ln, hfs19];omega) (by kernel_rfl) (by intro k f hk hex; simp only [List.mem_cons, List.not_mem_nil, or_false] at hex; rcases hex with rfl <;> (simp [List.getElem?_append, hfs19] at hk; subst hk; refine ⟨?_, by first | omega | (simp; done) | (simp; omega)⟩; simp [qids, asksB, Op.operands, Call.operands, topId, numS, numI, Wd, hfq20]; try omega)) ?_
  try simp only []
  refine DQ.sto1 (m := 2) [] _ (by simp (disch := first|omega|(simp only[ln];omega)) [runDf.eq_def, runF1, runF2, stepF.eq_def, updo.eq_def, hupo.eq_def, opSto1.eq_def]; rfl) rfl (by simp only[ln, hfs19];omega) (by kernel_rfl) (by intro k f hk hex; simp only [List.not_mem_nil] at hex) ?_
  try simp only []
  refine hK18 _ ?_
  refine .ret ?_
  exact hK _ _ _ _ trivial ((Fin.m).cast (by rw [e.1, e.2]))
set_option maxHeartbeats 2000000 in
theorem l3Make_fc {j : Nat} (x y w : Int) (hw : w ≠ 0) (bx : Bg j x) (bY : Bg j y) (bw : Bg j w) (hj0 : 1 ≤ j) (hj : j ≤ 16777216) : FC Try.prog 103 [numS x, numS y, numS w] (l3A (nrm w x / gcd3 x y w) (nrm w y / gcd3 x y w) (nrm w w / gcd3 x y w)) := by
 have hgp := gcd3_pos (x := x) (y := y) hw
 have hg3 := gcd3_nrm x y w
 refine .b Try.func103 47 (fun nx K hK => ?_) (hr := by simp [idfL, idf, l3A, l3C, idf_Wd'])
 refine .q ?_
 refine .sq fun K2 hK2 => ?_
 have J2 : ∀ s : St, (∃ X Y W : Int, X = nrm w x ∧ Y = nrm w y ∧ W = nrm w w ∧ s.env 3 = .ptr nx 0 0 ∧ s.env 4 = .ptr (nx + 1) 0 0 ∧ s.env 5 = .ptr (nx + 1 + 1) 0 0 ∧ s.env 6 = .ptr (nx + 1 + 1 + 1) 0 0 ∧ s.heap nx = some (2, [[.bool (decide (X < 0)), Wd .u32 (dg X)]]) ∧ s.heap (nx + 1) = some (2, [[.bool (decide (Y < 0)), Wd .u32 (dg Y)]]) ∧ s.heap (nx + 1 + 1) = some (2, [[.bool (decide (W < 0)), Wd .u32 (dg W)]]) ∧ s.heap (nx + 1 + 1 + 1) = some (6, [[.bool false, .nsl, .bool false, .nsl, .bool false, .nsl]]) ∧ nx + 1 + 1 + 1 < s.nx ∧ s.nt = 47) → K2 s := by
  rintro ⟨e, H, mm, nt⟩ ⟨X, Y, W, hX, hY, hW, h3, h4, h5, h6, hA, hB, hC, hD, hm, rfl⟩
  simp only [] at h3 h4 h5 h6 hA hB hC hD hm
  rw [← hX, ← hY, ← hW] at hg3
  have cX : Bg j X := by rw [hX]; exact bx.nrm
  have cY : Bg j Y := by rw [hY]; exact bY.nrm
  have cW : Bg j W := by rw [hW]; exact bw.nrm
  have bG1 : Bg j ((Int.gcd X Y : Nat) : Int) := Bg.gcd cX.abs cY.abs
  have bG : Bg j (gcd3 x y w) := by rw [← hg3]; exact Bg.gcd bG1 cW.abs
  have hg2 : FC Try.prog 169 [numS ((Int.gcd X Y : Nat) : Int), numS W] (numS (gcd3 x y w)) := by
    have h := l1Gcd_fc ((Int.gcd X Y : Nat) : Int) W bG1 cW hj
    have e : ((Int.gcd ((Int.gcd X Y : Nat) : Int) W : Nat) : Int) = gcd3 x y w := by rw [← hg3]; simp [Int.gcd, gcd3]
    rw [e] at h; exact h
  obtain ⟨cc, hcf, hce⟩ : ∃ c : Int, FC Try.prog 168 [numS (gcd3 x y w), numS 1] (.int .i64 c) ∧ (c == 0) = decide (gcd3 x y w = 1) := ⟨_, l1Cmp_fc bG (Bg.i64 (n := 1) (by omega) (by omega)) (by omega) (by omega), one_cmp _⟩
  generalize hgg : gcd3 x y w = g at *
  refine hK2 _ ?_
  refine .sq fun K3 hK3 => ?_
  refine .d 6 ?_
  refine .k 2 (fun fs4 hfs4 => ?_) (by simp (disch := first|omega|(simp only[ln];omega)) [runDf.eq_def, runF1, runF2, stepF.eq_def, updo.eq_def, hupo.eq_def, opSto1.eq_def, List.take_succ_cons, List.take_zero, h3, h4, h5, hA, hB, hC, Nat.ne_of_lt hm]; rfl)
  refine .f (l1Gcd_fc X Y cX cY hj) hb169 ?_ (ha := by simp (disch := first|omega|(simp only[ln];omega)) [idf_Wd', h3, h4, h5, hA, hB, hC, Nat.ne_of_lt hm])
  refine .k 1 (fun fs5 hfs5 => ?_) (by simp (disch := first|omega|(simp only[ln];omega)) [runDf.eq_def, runF1, runF2, stepF.eq_def, updo.eq_def, hupo.eq_def, opSto1.eq_def, List.take_succ_cons, List.take_zero, h3, h4, h5, hA, hB, hC, Nat.ne_of_lt hm]; rfl)
  refine .f hg2 hb169 ?_ (ha := by simp (disch := first|omega|(simp only[ln];omega)) [idf_Wd', h3, h4, h5, hA, hB, hC, Nat.ne_of_lt hm])
  refine .k 1 (fun fs6 hfs6 => ?_) (by simp (disch := first|omega|(simp only[ln];omega)) [runDf.eq_def, runF1, runF2, stepF.eq_def, updo.eq_def, hupo.eq_def, opSto1.eq_def, List.take_succ_cons, List.take_zero, h3, h4, h5, hA, hB, hC, Nat.ne_of_lt hm]; rfl)
  refine .r 6 (by simp only[ln, hfs4, hfs5, hfs6];omega) ?_ (by simp (disch := first|omega|(simp only[ln];omega)) [runDf.eq_def, runF1, runF2, stepF.eq_def, updo.eq_def, hupo.eq_def, opSto1.eq_def, h3, h4, h5, hA, hB, hC, Nat.ne_of_lt hm]; rfl)
  refine hK3 _ ?_
  refine .sq fun K7 hK7 => ?_
  refine .sq fun K8 hK8 => ?_
  refine .d 4 ?_
  refine .k 1 (fun fs9 hfs9 => ?_)
  refine .f (l1Int_fc 1 (by omega) (by omega)) hb106 ?_
  refine .f hcf hb168 ?_
  refine .k 1 (fun fs10 hfs10 => ?_)
  refine .r 4 (by simp only[ln, hfs9, hfs10];omega) ?_
  refine hK8 _ ?_
  refine .c (t := !decide (g = 1)) (fun h24 => ?_) (fun h24 => ?_) (by simp (disch := first|omega|(simp only[ln];omega)) [bne, hce])
  ·try simp only[dc]at h24
   refine .sq fun K11 hK11 => ?_
   refine .region ?_
   refine .kf 2 (l1Div_fc X g (by omega) cX bG hj) hb194 ?_ (by simp (disch := first|omega|(simp only[ln];omega)) [List.take_succ_cons, List.take_zero, h3, hA]; rfl) (ha := by simp (disch := first|omega|(simp only[ln];omega)) [idf_Wd', h3, hA])
   refine .e ?_ (by simp (disch := first|omega|(simp only[ln];omega)) [h3, hA]; rfl)
   refine hK11 _ ?_
   refine .sq fun K12 hK12 => ?_
   refine .region ?_
   refine .kf 2 (l1Div_fc Y g (by omega) cY bG hj) hb194 ?_ (by simp (disch := first|omega|(simp only[ln];omega)) [List.take_succ_cons, List.take_zero, h4, hB]; rfl) (ha := by simp (disch := first|omega|(simp only[ln];omega)) [idf_Wd', h4, hB])
   refine .e ?_ (by simp (disch := first|omega|(simp only[ln];omega)) [h4, hB]; rfl)
   refine hK12 _ ?_
   refine .region ?_
   refine .kf 2 (l1Div_fc W g (by omega) cW bG hj) hb194 ?_ (by simp (disch := first|omega|(simp only[ln];omega)) [List.take_succ_cons, List.take_zero, h5, hC]; rfl) (ha := by simp (disch := first|omega|(simp only[ln];omega)) [idf_Wd', h5, hC])
   refine .e ?_ (by simp (disch := first|omega|(simp only[ln];omega)) [h5, hC]; rfl)
   refine hK7 _ ?_
   refine .q ?_ (by simp (disch := first|omega|(simp only[ln];omega)) [h3, h4, h5, h6, hD]; rfl)
   refine .ret ?_
   exact hK _ _ _ _ trivial ((Fin.mk (by simp (disch := omega) [aRes, aResL, aRes1, h6]; rfl)).cast (by rw [← hX, ← hY, ← hW]; first | done | rfl))
  ·try simp only[dc]at h24
   have hg1 : g = 1 := by simpa using h24
   refine .skip ?_
   refine hK7 _ ?_
   refine .q ?_ (by simp (disch := first|omega|(simp only[ln];omega)) [h3, h4, h5, h6, hA, hB, hC, hD]; rfl)
   refine .ret ?_
   exact hK _ _ _ _ trivial ((Fin.mk (by simp (disch := omega) [aRes, aResL, aRes1, h6]; rfl)).cast (by rw [← hX, ← hY, ← hW, hg1, Int.ediv_one, Int.ediv_one, Int.ediv_one]; first | done | rfl))
 refine .q ?_
 refine .c (t := decide (w < 0)) (fun h9 => ?_) (fun h9 => ?_)
 ·try simp only[dc]at h9
  refine .old fun hold => ?_
  refine .d 6 ?_
  refine .k 1 (fun fs16 hfs16 => ?_)
  refine .f (l1Neg_fc x) hb193 ?_
  refine DP.runF1q (by simp (disch := first|omega|(simp only[ln];omega)) [runDf.eq_def, runF1, runF2, stepF.eq_def, updo.eq_def, hupo.eq_def, opSto1.eq_def]; rfl) fun fq17 hfq17 => ?_
  simp [qids, asksB, Op.operands, topId] at hfq17
  simp only [updo]
  refine .f (l1Neg_fc y) hb193 ?_
  refine DP.runF1q (by simp (disch := first|omega|(simp only[ln];omega)) [runDf.eq_def, runF1, runF2, stepF.eq_def, updo.eq_def, hupo.eq_def, opSto1.eq_def]; rfl) fun fq18 hfq18 => ?_
  simp [qids, asksB, Op.operands, topId] at hfq18
  simp only [updo]
  refine .f (l1Neg_fc w) hb193 ?_
  refine DQ.sto1 (m := 6) [2, 3, 4] _ (by simp (disch := first|omega|(simp only[ln];omega)) [runDf.eq_def, runF1, runF2, stepF.eq_def, updo.eq_def, hupo.eq_def, opSto1.eq_def]; rfl) rfl (by simp only[ln, hfs16];omega) (by kernel_rfl) (by intro k f hk hex; simp only [List.mem_cons, List.not_mem_nil, or_false] at hex; rcases hex with rfl | rfl | rfl <;> (simp [List.getElem?_append, hfs16] at hk; subst hk; refine ⟨?_, by first | omega | (simp; done) | (simp; omega)⟩; simp [qids, asksB, Op.operands, Call.operands, topId, numS, numI, Wd, hfq17, hfq18]; try omega)) ?_
  try simp only []
  refine DQ.sto1 (m := 6) [4, 5] _ (by simp (disch := first|omega|(simp only[ln];omega)) [runDf.eq_def, runF1, runF2, stepF.eq_def, updo.eq_def, hupo.eq_def, opSto1.eq_def]; rfl) rfl (by simp only[ln, hfs16];omega) (by kernel_rfl) (by intro k f hk hex; simp only [List.mem_cons, List.not_mem_nil, or_false] at hex; rcases hex with rfl | rfl <;> (simp [List.getElem?_append, hfs16] at hk; subst hk; refine ⟨?_, by first | omega | (simp; done) | (simp; omega)⟩; simp [qids, asksB, Op.operands, Call.operands, topId, numS, numI, Wd, hfq17, hfq18]; try omega)) ?_
  try simp only []
  refine DQ.sto1 (m := 6) [] _ (by simp (disch := first|omega|(simp only[ln];omega)) [runDf.eq_def, runF1, runF2, stepF.eq_def, updo.eq_def, hupo.eq_def, opSto1.eq_def]; rfl) rfl (by simp only[ln, hfs16];omega) (by kernel_rfl) (by intro k f hk hex; simp only [List.not_mem_nil] at hex) ?_
  try simp only []
  refine J2 _ ?_
  exact ⟨-x, -y, -w, by simp [nrm, h9], by simp [nrm, h9], by simp [nrm, h9], by simp, by simp, by simp, by simp, by simp (disch := omega), by simp (disch := omega), by simp (disch := omega), by simp (disch := omega), by simp, rfl⟩
 ·try simp only[dc]at h9
  refine .skip ?_
  refine J2 _ ?_
  exact ⟨x, y, w, by simp [nrm, h9], by simp [nrm, h9], by simp [nrm, h9], by simp, by simp, by simp, by simp, by simp (disch := omega), by simp (disch := omega), by simp (disch := omega), by simp (disch := omega), by simp, rfl⟩
end
section
attribute [local simp] idf_numS cells_numS numS_fold l3A l3C
set_option maxHeartbeats 2000000 in
theorem l3Point_fc {k : Nat} (x y w : Int) (bx : Bg k x) (bY : Bg k y) (bw : Bg k w) (hk : k ≤ 68719476736) : FC Try.prog 102 [l3A x y w] (.tup [.agg [.int .u64 (pt3 x y w).x.a, .int .u64 (pt3 x y w).x.b, .int .u64 (pt3 x y w).x.c, .int .u64 (pt3 x y w).x.d, .int .u64 (pt3 x y w).y.a, .int .u64 (pt3 x y w).y.b, .int .u64 (pt3 x y w).y.c, .int .u64 (pt3 x y w).y.d, .int .u64 (pt3 x y w).w.a, .int .u64 (pt3 x y w).w.b, .int .u64 (pt3 x y w).w.c, .int .u64 (pt3 x y w).w.d], .bool (sm x y w)]) := by
 have hs := l3Small_fc bx bY bw hk
 have w1 := l1Wide_fc bx hk
 have w2 := l1Wide_fc bY hk
 have w3 := l1Wide_fc bw hk
 rw [wdT_l] at w1 w2 w3
 unfold W4.l at w1 w2 w3
 refine .b Try.func102 36 (fun nx K hK => ?_)
 refine .q ?_
 refine .sq fun K2 hK2 => ?_
 refine .sq fun K3 hK3 => ?_
 refine .region ?_
 refine .kf 1 hs hb167 ?_
 refine .e ?_
 refine hK3 _ ?_
 refine .c (t := !(sm x y w)) (fun h12 => ?_) (fun h12 => ?_)
 ·try simp only[dc]at h12
  have hb : sm x y w = false := by simpa using h12
  refine .q ?_
  refine .ret ?_
  exact hK _ _ _ _ trivial ((Fin.m).cast (by rw [pt3, hb]; rfl))
 ·try simp only[dc]at h12
  have hb : sm x y w = true := by simpa using h12
  refine .skip ?_
  refine hK2 _ ?_
  refine .sq fun K5 hK5 => ?_
  refine .region ?_
  refine .kf 2 w1 hb192 ?_
  refine .e ?_
  refine hK5 _ ?_
  refine .sq fun K6 hK6 => ?_
  refine .region ?_
  refine .kf 2 w2 hb192 ?_
  refine .e ?_
  refine hK6 _ ?_
  refine .sq fun K7 hK7 => ?_
  refine .region ?_
  refine .kf 2 w3 hb192 ?_
  refine .e ?_
  refine hK7 _ ?_
  refine .q ?_
  refine .ret ?_
  exact hK _ _ _ _ trivial ((Fin.m).cast (by rw [pt3, if_pos hb, hb]))
end
section
attribute [local simp] idf_numS cells_numS numS_fold
theorem l3Spot_fc (x y : Int) (hx1 : -9223372036854775808 ≤ x) (hx2 : x ≤ 9223372036854775807) (hy1 : -9223372036854775808 ≤ y) (hy2 : y ≤ 9223372036854775807) : FC Try.prog 123 [.agg [.int .i64 x, .int .i64 y]] (l3A x y 1) := by
 refine .b Try.func123 11 (fun nx K hK => ?_) (hr := by simp [idfL, idf, l3A, l3C, idf_Wd'])
 refine .q ?_
 refine .sq fun K2 hK2 => ?_
 refine .d 8 ?_
 refine .k 2 (fun fs3 hfs3 => ?_)
 refine .f (l1Int_fc x hx1 hx2) hb106 ?_
 refine .k 2 (fun fs4 hfs4 => ?_)
 refine .f (l1Int_fc y hy1 hy2) hb106 ?_
 refine .f (l1Int_fc 1 (by omega) (by omega)) hb106 ?_
 refine .k 1 (fun fs5 hfs5 => ?_)
 refine .r 8 (by simp only[ln, hfs3, hfs4, hfs5];omega) ?_
 refine hK2 _ ?_
 refine .ret ?_
 exact hK _ _ _ _ trivial ((Fin.m).cast (by rfl))
end

end Go.Proofs.Ytmaebeknmiomnaa

/- Walks: points made and halved by the reference. -/
namespace Go.Proofs.Ytmaebeknmiomnaa
open Go Go.RowKit
set_option linter.unusedSimpArgs false
set_option linter.unusedVariables false
set_option maxRecDepth 100000
attribute [local simp] szT4 byT4 agT4 unT4 zoT4 szT24 byT24 agT24 unT24 zoT24 szT26 byT26 agT26 flT26 fdT26_0 fdT26_1 fdT26_2 fdT26_3 zoT26 szT28 byT28 agT28 flT28 fdT28_0 fdT28_1 fdT28_2 zoT28 szT111 byT111 agT111 elT111 unT111 zoT111 szT113 byT113 agT113 flT113 fdT113_0 fdT113_1 zoT113 szT115 byT115 agT115 flT115 fdT115_0 fdT115_1 fdT115_2 zoT115

theorem eqW1 (n : Nat) (a a' : Int) : eqW Try.prog (n + 1) 24 [.int .u64 a] [.int .u64 a'] = some (a == a') := by
  unfold eqW; simp only [Try.underlying24]; rfl
section
attribute [local simp] idf_numS cells_numS numS_fold wdI
end
section
attribute [local simp] idf_numS cells_numS numS_fold Pt.av Pt.cells l3A l3C
end

end Go.Proofs.Ytmaebeknmiomnaa

/- Walks: drawn numbers. -/
namespace Go.Proofs.Ytmaebeknmiomnaa
open Go Go.RowKit
set_option linter.unusedSimpArgs false
set_option linter.unusedVariables false
set_option maxRecDepth 100000
attribute [local simp] szT3 byT3 agT3 unT3 zoT3 szT5 byT5 agT5 unT5 zoT5 szT22 byT22 agT22 elT22 unT22 zoT22 szT24 byT24 agT24 unT24 zoT24 szT190 byT190 agT190 flT190 fdT190_0 fdT190_1 zoT190

set_option maxHeartbeats 1000000 in
theorem next_ac (l : List Int) (p id : Nat) (H : Heap) (nx : Nat) (dl : Dig 256 l) (hl : l.length ≤ 1048576) (hp : p ≤ l.length) (hH : H id = some (2, [[Wd .u8 l, .int .i64 (p : Int)]])) (hd : ∀ i q, H i = some q → i < nx) : ACall Try.prog 209 [.ptr id 0 0] H nx (fun r H' nx' => (∃ n : Int, r = .int .i64 n ∧ 0 ≤ n ∧ n ≤ 255) ∧ (∃ p' : Nat, p' ≤ l.length ∧ H' = hupd H id (some (2, [[Wd .u8 l, .int .i64 (p' : Int)]]))) ∧ nx ≤ nx') := by
 refine .b Try.func209 32 fun K hK => ?_
 refine .q ?_
 refine .sq fun K2 hK2 => ?_
 refine .sq fun K3 hK3 => ?_
 refine .df 10 ?_ (by simp (disch := first|omega|(simp only[ln];omega)) [runDf.eq_def, runF1, runF2, stepF.eq_def, updo.eq_def, hupo.eq_def, opSto1.eq_def, len_Wd (P := Try.prog) #[22] rfl elT22, hH]; rfl)
 refine hK3 _ ?_
 refine .c (fun h12 => ?_) (fun h12 => ?_)
 ·try simp only[dc]at h12
  refine .q ?_
  refine .ret ?_
  exact hK _ _ _ _ _ trivial (Fin.m) (⟨⟨0, rfl, by omega, by omega⟩, ⟨p, hp, (hupd_id hH).symm⟩, by simp⟩)
 ·try simp only[dc]at h12
  have hlt : p < l.length := by omega
  have gl := dl.gt (by omega) p
  have ep : ((p : Int) + 1 - 1).toNat = p := by omega
  have ep2 : (p : Int) + 1 - 1 = p := by omega
  refine .skip ?_
  refine hK2 _ ?_
  refine .q ?_ (by simp (disch := first|omega|(simp only[ln];omega)) [hH]; rfl)
  refine .sq fun K6 hK6 => ?_
  refine .df 12 ?_ (by simp (disch := first|omega|(simp only[ln];omega)) [runDf.eq_def, runF1, runF2, stepF.eq_def, updo.eq_def, hupo.eq_def, opSto1.eq_def, idx_WdD (P := Try.prog) elT22 szT5, if_pos, hH, ep, ep2, ld_ip agT5]; rfl)
  refine hK6 _ ?_
  refine .ret ?_
  exact hK _ _ _ _ _ trivial (Fin.m) (⟨⟨gt l p, rfl, by omega, by omega⟩, ⟨p + 1, by omega, by simp⟩, by simp; omega⟩)
set_option maxHeartbeats 1000000 in
theorem below_ac (n : Int) (hn0 : 1 < n) (hn1 : n ≤ 65536) (l : List Int) (p id : Nat) (H : Heap) (nx : Nat) (dl : Dig 256 l) (hl : l.length ≤ 1048576) (hp : p ≤ l.length) (hH : H id = some (2, [[Wd .u8 l, .int .i64 (p : Int)]])) (hd : ∀ i q, H i = some q → i < nx) : ACall Try.prog 159 [.ptr id 0 0, .int .i64 n] H nx (fun r H' nx' => (∃ k : Int, r = .int .i64 k ∧ 0 ≤ k ∧ k < n) ∧ (∃ p' : Nat, p' ≤ l.length ∧ H' = hupd H id (some (2, [[Wd .u8 l, .int .i64 (p' : Int)]]))) ∧ nx ≤ nx') := by
 have hnz : n ≠ 0 := by omega
 have tm : ∀ a : Int, 0 ≤ a → a.tmod n = a % n := fun a h => Int.tmod_eq_emod_of_nonneg h
 have em0 : ∀ a : Int, 0 ≤ a % n := fun a => Int.emod_nonneg a hnz
 have em1 : ∀ a : Int, a % n < n := fun a => Int.emod_lt_of_pos a (by omega)
 refine .b Try.func159 24 fun K hK => ?_
 refine .q ?_
 refine .sq fun K2 hK2 => ?_
 refine .q ?_
 refine .c (fun h7 => ?_) (fun h7 => ?_)
 ·simp at h7; omega
 ·try simp only[dc]at h7
  refine .skip ?_
  refine hK2 _ ?_
  refine .sq fun K4 hK4 => ?_
  refine .q ?_
  refine .c (fun h9 => ?_) (fun h9 => ?_)
  ·try simp only[dc]at h9
   refine .sq fun K6 hK6 => ?_
   refine .region ?_
   refine .k 1 ?_ (by simp (disch := first|omega|(simp only[ln];omega)) [List.take_succ_cons, List.take_zero, hnz]; rfl)
   refine AOPS.old fun hold1 => ?_
   refine .a (next_ac l p id _ _ dl hl hp (by simp [hH]) hold1) hb209 ?_ (ha := by simp (disch := first|omega|(simp only[ln];omega)) [idf_Wd', hnz])
   rintro _ _ nx2 ⟨⟨m, rfl, m0, m1⟩, ⟨p2, hp2, rfl⟩, hnx2⟩
   try simp only [] at hnx2
   refine .e ?_ (by simp (disch := first|omega|(simp only[ln];omega)) [hnz]; rfl)
   refine hK6 _ ?_
   refine .ret ?_
   exact hK _ _ _ _ _ trivial (Fin.mk (r := .int .i64 (m.tmod n)) (by simp [aRes, aResL, aRes1])) (⟨⟨_, rfl, by rw [tm m m0]; exact em0 _, by rw [tm m m0]; exact em1 _⟩, ⟨p2, hp2, by simp [hupd_same]⟩, by first | exact hnx2 | (simp at *; omega)⟩)
  ·try simp only[dc]at h9
   refine .skip ?_
   refine hK4 _ ?_
   refine .sq fun K7 hK7 => ?_
   refine .region ?_
   refine .k 1 ?_
   refine AOPS.old fun hold1 => ?_
   refine .a (next_ac l p id _ _ dl hl hp (by simp [hH]) hold1) hb209 ?_
   rintro _ _ nx2 ⟨⟨m, rfl, m0, m1⟩, ⟨p2, hp2, rfl⟩, hnx2⟩
   try simp only [] at hnx2
   refine .e ?_
   refine hK7 _ ?_
   refine .sq fun K8 hK8 => ?_
   refine .region ?_
   refine .k 2 ?_
   refine AOPS.old fun hold2 => ?_
   refine .a (next_ac l p2 id _ _ dl hl hp2 (by simp [hH]) hold2) hb209 ?_
   rintro _ _ nx3 ⟨⟨m2, rfl, m20, m21⟩, ⟨p3, hp3, rfl⟩, hnx3⟩
   try simp only [] at hnx3
   refine .e ?_
   refine hK8 _ ?_
   refine .q ?_ (by simp (disch := first|omega|(simp only[ln];omega)) [hnz]; rfl)
   refine .ret ?_
   exact hK _ _ _ _ _ trivial (Fin.mk (r := .int .i64 ((m * 256 + m2).tmod n)) (by simp [aRes, aResL, aRes1])) (⟨⟨_, rfl, by rw [tm _ (by omega)]; exact em0 _, by rw [tm _ (by omega)]; exact em1 _⟩, ⟨p3, hp3, by simp [hupd_same]⟩, by first | exact Nat.le_trans hnx2 hnx3 | (simp at *; omega)⟩)
set_option maxHeartbeats 1000000 in
theorem once_ac (n : Int) (hn0 : 1 < n) (hn1 : n ≤ 65536) (l : List Int) (p id : Nat) (H : Heap) (nx : Nat) (dl : Dig 256 l) (hl : l.length ≤ 1048576) (hp : p ≤ l.length) (hH : H id = some (2, [[Wd .u8 l, .int .i64 (p : Int)]])) (hd : ∀ i q, H i = some q → i < nx) : ACall Try.prog 78 [.ptr id 0 0, .int .i64 n] H nx (fun r H' nx' => (∃ b : Bool, r = .bool b) ∧ (∃ p' : Nat, p' ≤ l.length ∧ H' = hupd H id (some (2, [[Wd .u8 l, .int .i64 (p' : Int)]]))) ∧ nx ≤ nx') := by
 refine .b Try.func78 11 fun K hK => ?_
 refine .q ?_
 refine .sq fun K2 hK2 => ?_
 refine .region ?_
 refine .k 2 ?_
 refine AOPS.old fun hold2 => ?_
 refine .a (below_ac n hn0 hn1 l p id _ _ dl hl hp (by simp [hH]) hold2) hb159 ?_
 rintro _ _ nx2 ⟨⟨k, rfl, k0, k1⟩, ⟨p2, hp2, rfl⟩, hnx2⟩
 try simp only [] at hnx2
 refine .e ?_
 refine hK2 _ ?_
 refine .ret ?_
 exact hK _ _ _ _ _ trivial (Fin.mk (r := .bool (k == n - 1)) (by simp [aRes, aResL, aRes1])) (⟨⟨_, rfl⟩, ⟨p2, hp2, by simp [hupd_same]⟩, by first | exact hnx2 | (simp at *; omega)⟩)
set_option maxHeartbeats 1000000 in
theorem word_ac (l : List Int) (p id : Nat) (H : Heap) (nx : Nat) (dl : Dig 256 l) (hl : l.length ≤ 1048576) (hp : p ≤ l.length) (hH : H id = some (2, [[Wd .u8 l, .int .i64 (p : Int)]])) (hd : ∀ i q, H i = some q → i < nx) : ACall Try.prog 163 [.ptr id 0 0] H nx (fun r H' nx' => (∃ n : Int, r = .int .u64 n ∧ U64 n) ∧ (∃ p' : Nat, p' ≤ l.length ∧ H' = hupd H id (some (2, [[Wd .u8 l, .int .i64 (p' : Int)]]))) ∧ nx ≤ nx') := by
 refine .b Try.func163 16 fun K hK => ?_
 refine .q ?_
 refine .q ?_
 refine .sq fun K3 hK3 => ?_
 refine .q ?_
 refine .block ?_
 refine .loop (fun N s => ∃ (i p' : Nat) (x : Int), N = 8 - i ∧ i ≤ 8 ∧ p' ≤ l.length ∧ U64 x ∧ s.env 0 = .ptr id 0 0 ∧ s.env 3 = .int .u64 x ∧ s.env 4 = .int .i64 (i : Int) ∧ s.heap = hupd H id (some (2, [[Wd .u8 l, .int .i64 (p' : Int)]])) ∧ nx ≤ s.nx ∧ s.nt = 16) (8) (⟨0, p, 0, by omega, by omega, hp, by unfold U64; omega, by simp, by simp, by simp, by simp [hupd_id hH], by simp, rfl⟩) ?_
 rintro N ⟨e, HH, mm, nt⟩ ⟨i, q, x, rfl, hi, hq, hx, h0, h3, h4, rfl, hm, rfl⟩
 simp only [] at h0 h3 h4 hm
 refine .sq fun K5 hK5 => ?_
 refine .q ?_ (by simp (disch := first|omega|(simp only[ln];omega)) [h4]; rfl)
 refine .c (fun h6 => ?_) (fun h6 => ?_)
 ·try simp only[dc]at h6
  have hi' : i < 8 := by omega
  refine .skip ?_
  refine hK5 _ ?_
  refine .sq fun K7 hK7 => ?_
  refine .block ?_
  refine .region ?_
  refine .k 3 ?_ (by simp (disch := first|omega|(simp only[ln];omega)) [List.take_succ_cons, List.take_zero, h0, h3, IntKind.bits]; rfl)
  refine AOPS.old fun hold3 => ?_
  refine .a (next_ac l q id _ _ dl hl hq (by simp) hold3) hb209 ?_ (ha := by simp (disch := first|omega|(simp only[ln];omega)) [idf_Wd', h0, h3, IntKind.bits])
  rintro _ _ nx2 ⟨⟨m, rfl, m0, m1⟩, ⟨p2, hp2, rfl⟩, hnx2⟩
  try simp only [] at hnx2
  have ox := or_u64 (wrap_U64 (x * 2 ^ 8)) (show U64 m by unfold U64; omega)
  try simp only [] at ox
  refine .e ?_ (by simp (disch := first|omega|(simp only[ln];omega)) [h0, h3, IntKind.bits]; rfl)
  refine hK7 _ ?_
  refine .r ?_ (by simp (disch := first|omega|(simp only[ln];omega)) [h4]; rfl)
  refine ⟨8 - (i + 1), by omega, i + 1, p2, _, rfl, by omega, hp2, ox, by simp [h0], by simp [IntKind.bits], by simp (disch := omega) [h4], by simp [hupd_same], by simp at *; omega, rfl⟩
 ·try simp only[dc]at h6
  refine .exit ?_
  refine hK3 _ ?_
  refine .q ?_ (by simp (disch := first|omega|(simp only[ln];omega)) [h3]; rfl)
  refine .ret ?_
  exact hK _ _ _ _ _ trivial (Fin.mk (r := .int .u64 x) (by simp [aRes, aResL, aRes1])) (⟨⟨x, rfl, hx⟩, ⟨q, hq, rfl⟩, hm⟩)

end Go.Proofs.Ytmaebeknmiomnaa

/- Walks: drawn numbers near others; drawn spots. -/
namespace Go.Proofs.Ytmaebeknmiomnaa
open Go Go.RowKit
set_option linter.unusedSimpArgs false
set_option linter.unusedVariables false
set_option maxRecDepth 100000
attribute [local simp] szT2 byT2 agT2 unT2 zoT2 szT3 byT3 agT3 unT3 zoT3 szT24 byT24 agT24 unT24 zoT24 szT67 byT67 agT67 flT67 fdT67_0 fdT67_1 zoT67

set_option maxHeartbeats 1000000 in
theorem near_ac (a b : Int) (ha : -1152921504606846976 ≤ a) (hab : a ≤ b) (hb : b ≤ 1152921504606846976) (l : List Int) (p id : Nat) (H : Heap) (nx : Nat) (dl : Dig 256 l) (hl : l.length ≤ 1048576) (hp : p ≤ l.length) (hH : H id = some (2, [[Wd .u8 l, .int .i64 (p : Int)]])) (hd : ∀ i q, H i = some q → i < nx) : ACall Try.prog 164 [.ptr id 0 0, .int .i64 a, .int .i64 b] H nx (fun r H' nx' => (∃ k : Int, r = .int .i64 k ∧ a ≤ k ∧ k ≤ b) ∧ (∃ p' : Nat, p' ≤ l.length ∧ H' = hupd H id (some (2, [[Wd .u8 l, .int .i64 (p' : Int)]]))) ∧ nx ≤ nx') := by
 have hid := hd id _ hH
 refine .b Try.func164 31 fun K hK => ?_
 refine .q ?_
 refine .sq fun K2 hK2 => ?_
 refine .sq fun K3 hK3 => ?_
 refine .region ?_
 refine .k 1 ?_
 refine AOPS.old fun hold1 => ?_
 refine .a (below_ac 8 (by omega) (by omega) l p id _ _ dl hl hp (by simp [hH]) hold1) hb159 ?_
 rintro _ _ nx2 ⟨⟨k, rfl, k0, k1⟩, ⟨p2, hp2, rfl⟩, hnx2⟩
 try simp only [] at hnx2
 refine .nil ?_
 refine hK3 _ ?_
 refine .block ?_
 refine .q ?_
 refine .c (fun h9 => ?_) (fun h9 => ?_)
 ·try simp only[dc]at h9
  refine .q ?_
  refine .ret ?_
  exact hK _ _ _ _ _ trivial (Fin.mk (r := .int .i64 a) (by simp [aRes, aResL, aRes1])) (⟨⟨_, rfl, by omega, by omega⟩, ⟨p2, hp2, by simp [hupd_same]⟩, by first | exact hnx2 | (simp at *; omega)⟩)
 ·try simp only[dc]at h9
  refine .q ?_
  refine .c (fun h12 => ?_) (fun h12 => ?_)
  ·try simp only[dc]at h12
   refine .q ?_
   refine .ret ?_
   exact hK _ _ _ _ _ trivial (Fin.mk (r := .int .i64 b) (by simp [aRes, aResL, aRes1])) (⟨⟨_, rfl, by omega, by omega⟩, ⟨p2, hp2, by simp [hupd_same]⟩, by first | exact hnx2 | (simp at *; omega)⟩)
  ·try simp only[dc]at h12
   refine .skip ?_
   refine hK2 _ ?_
   refine .sq fun K8 hK8 => ?_
   refine .q ?_
   refine .c (fun h17 => ?_) (fun h17 => ?_)
   ·simp at h17; omega
   ·try simp only[dc]at h17
    refine .skip ?_
    refine hK8 _ ?_
    refine .sq fun K10 hK10 => ?_
    have hdz : b - a + 1 ≠ 0 := by omega
    have cw : IntKind.u64.wrap (b - a + 1) = b - a + 1 := wrap_u64s (by omega) (by omega)
    have tmw : ∀ w : Int, 0 ≤ w → (w / 2).tmod (b - a + 1) = w / 2 % (b - a + 1) := fun w h => Int.tmod_eq_emod_of_nonneg (by omega)
    have sw : ∀ w : Int, 0 ≤ w → IntKind.i64.wrap (w / 2 % (b - a + 1)) = w / 2 % (b - a + 1) := fun w h => by
      have e0 := Int.emod_nonneg (w / 2) hdz
      have e1 := Int.emod_lt_of_pos (w / 2) (show 0 < b - a + 1 by omega)
      exact wrap_i64s (by omega) (by omega)
    refine .region ?_
    refine .k 2 ?_ (by simp (disch := first|omega|(simp only[ln];omega)) [List.take_succ_cons, List.take_zero, IntKind.bits, Int.fdiv_eq_ediv_of_nonneg, hdz, tmw, cw, sw]; rfl)
    refine AOPS.old fun hold2 => ?_
    refine .a (word_ac l p2 id _ _ dl hl hp2 (by simp) hold2) hb163 ?_ (ha := by simp (disch := first|omega|(simp only[ln];omega)) [idf_Wd', IntKind.bits, Int.fdiv_eq_ediv_of_nonneg, hdz, tmw, cw, sw])
    rintro _ _ nx3 ⟨⟨w, rfl, hw0, hw1⟩, ⟨p3, hp3, rfl⟩, hnx3⟩
    have e0 := Int.emod_nonneg (w / 2) hdz
    have e1 := Int.emod_lt_of_pos (w / 2) (show 0 < b - a + 1 by omega)
    try simp only [] at hnx3
    refine .e ?_ (by simp (disch := first|omega|(simp only[ln];omega)) [IntKind.bits, Int.fdiv_eq_ediv_of_nonneg, hdz, tmw, cw, sw]; rfl)
    refine hK10 _ ?_
    refine .ret ?_
    exact hK _ _ _ _ _ trivial (Fin.mk (r := .int .i64 (a + w / 2 % (b - a + 1))) (by simp [aRes, aResL, aRes1])) (⟨⟨_, rfl, by omega, by omega⟩, ⟨p3, hp3, by simp [hupd_same]⟩, by first | exact Nat.le_trans hnx2 hnx3 | (simp at *; omega)⟩)
set_option maxHeartbeats 1000000 in
theorem spot_ac (l : List Int) (p id : Nat) (H : Heap) (nx : Nat) (dl : Dig 256 l) (hl : l.length ≤ 1048576) (hp : p ≤ l.length) (hH : H id = some (2, [[Wd .u8 l, .int .i64 (p : Int)]])) (hd : ∀ i q, H i = some q → i < nx) : ACall Try.prog 130 [.ptr id 0 0] H nx (fun r H' nx' => (∃ x y : Int, r = .agg [.int .i64 x, .int .i64 y] ∧ -6 ≤ x ∧ x ≤ 6 ∧ -6 ≤ y ∧ y ≤ 6) ∧ (∃ p' : Nat, p' ≤ l.length ∧ H' = hupd H id (some (2, [[Wd .u8 l, .int .i64 (p' : Int)]]))) ∧ nx ≤ nx') := by
 have hid := hd id _ hH
 refine .b Try.func130 8 fun K hK => ?_
 refine .q ?_
 refine .sq fun K2 hK2 => ?_
 refine .region ?_
 refine .k 1 ?_ (by simp (disch := first|omega|(simp only[ln];omega)) [List.take_succ_cons, List.take_zero, hH]; rfl)
 refine AOPS.old fun hold1 => ?_
 refine .a (near_ac (-6) (6) (by omega) (by omega) (by omega) l p id _ _ dl hl hp (by simp (disch := omega) [hH]) hold1) hb164 ?_ (ha := by simp (disch := first|omega|(simp only[ln];omega)) [idf_Wd', hH])
 rintro _ _ nx2 ⟨⟨x, rfl, x0, x1⟩, ⟨p2, hp2, rfl⟩, hnx2⟩
 try simp only [] at hnx2
 refine .k 1 ?_ (by simp (disch := first|omega|(simp only[ln];omega)) [List.take_succ_cons, List.take_zero, hH]; rfl)
 refine AOPS.old fun hold3 => ?_
 refine .a (near_ac (-6) (6) (by omega) (by omega) (by omega) l p2 id _ _ dl hl hp2 (by simp (disch := omega) [hH]) hold3) hb164 ?_ (ha := by simp (disch := first|omega|(simp only[ln];omega)) [idf_Wd', hH])
 rintro _ _ nx3 ⟨⟨y, rfl, y0, y1⟩, ⟨p3, hp3, rfl⟩, hnx3⟩
 try simp only [] at hnx3
 refine .e ?_ (by simp (disch := first|omega|(simp only[ln];omega)) [hH]; rfl)
 refine hK2 _ ?_
 refine .ret ?_
 exact hK _ _ _ _ _ trivial ((Fin.mk (r := .agg [.int .i64 x, .int .i64 y]) (by simp (disch := omega) [aRes, aResL, aRes1])).restr (fun i => decide (i < nx))) (⟨⟨x, y, rfl, x0, x1, y0, y1⟩, ⟨p3, hp3, by simp (disch := first | omega | (simp; done) | (simp; omega)) [hrestr_in, hrestr_out, hrestr_all hd, hupd_same]⟩, by first | omega | (simp at *; omega)⟩)

end Go.Proofs.Ytmaebeknmiomnaa

/- Walks: drawn points. -/
namespace Go.Proofs.Ytmaebeknmiomnaa
open Go Go.RowKit
set_option linter.unusedSimpArgs false
set_option linter.unusedVariables false
set_option maxRecDepth 100000
attribute [local simp] szT2 byT2 agT2 unT2 zoT2 szT3 byT3 agT3 unT3 zoT3 szT22 byT22 agT22 elT22 unT22 zoT22 szT24 byT24 agT24 unT24 zoT24 szT26 byT26 agT26 flT26 fdT26_0 fdT26_1 fdT26_2 fdT26_3 zoT26 szT28 byT28 agT28 flT28 fdT28_0 fdT28_1 fdT28_2 zoT28 szT67 byT67 agT67 flT67 fdT67_0 fdT67_1 zoT67 szT190 byT190 agT190 flT190 fdT190_0 fdT190_1 zoT190

theorem open_ac (l : List Int) (H : Heap) (nx : Nat) : ACall Try.prog 76 [Wd .u8 l] H nx (fun r H' nx' => r = .ptr nx 0 0 ∧ H' = hupd H nx (some (2, [[Wd .u8 l, .int .i64 0]])) ∧ nx' = nx + 1) := by
 refine .b Try.func76 6 fun K hK => ?_
 refine .q ?_
 refine .q ?_
 refine .ret ?_
 exact hK _ _ _ _ _ trivial (Fin.mk (r := .ptr nx 0 0) (by simp [aRes, aResL, aRes1])) (⟨rfl, by simp, by simp⟩)

end Go.Proofs.Ytmaebeknmiomnaa

/- Walks: FnTurns, walked. -/
namespace Go.Proofs.Ytmaebeknmiomnaa
open Go Go.RowKit
set_option linter.unusedSimpArgs false
set_option linter.unusedVariables false
set_option maxRecDepth 100000
attribute [local simp] szT3 byT3 agT3 unT3 zoT3 szT5 byT5 agT5 unT5 zoT5 szT22 byT22 agT22 elT22 unT22 zoT22 szT26 byT26 agT26 flT26 fdT26_0 fdT26_1 fdT26_2 fdT26_3 zoT26 szT28 byT28 agT28 flT28 fdT28_0 fdT28_1 fdT28_2 zoT28

theorem big_fc (l : List Int) : FC Try.prog 15 [Wd .u8 l] (.bool (decide (1048576 < (l.length : Int)))) := by
 refine .b Try.func15 6 (fun nx K hK => ?_)
 refine .q ?_
 refine .q ?_ (by simp (disch := first|omega|(simp only[ln];omega)) [len_Wd (P := Try.prog) #[22] rfl elT22]; rfl)
 refine .ret ?_
 exact hK _ _ _ _ trivial (Fin.m)

end Go.Proofs.Ytmaebeknmiomnaa

/- Walks: points in order, between, crossings (both). -/
namespace Go.Proofs.Ytmaebeknmiomnaa
open Go Go.RowKit
set_option linter.unusedSimpArgs false
set_option linter.unusedVariables false
set_option maxRecDepth 100000
attribute [local simp] szT2 byT2 agT2 unT2 zoT2 szT4 byT4 agT4 unT4 zoT4 szT26 byT26 agT26 flT26 fdT26_0 fdT26_1 fdT26_2 fdT26_3 zoT26 szT28 byT28 agT28 flT28 fdT28_0 fdT28_1 fdT28_2 zoT28 szT111 byT111 agT111 elT111 unT111 zoT111 szT113 byT113 agT113 flT113 fdT113_0 fdT113_1 zoT113 szT115 byT115 agT115 flT115 fdT115_0 fdT115_1 fdT115_2 zoT115 szT117 byT117 agT117 elT117 unT117 zoT117 szT119 byT119 agT119 flT119 fdT119_0 fdT119_1 zoT119 szT121 byT121 agT121 flT121 fdT121_0 fdT121_1 fdT121_2 zoT121

theorem eqW4n (n : Nat) (a b c d a' b' c' d' : Int) : eqW Try.prog (n + 2) 26 [.int .u64 a, .int .u64 b, .int .u64 c, .int .u64 d] [.int .u64 a', .int .u64 b', .int .u64 c', .int .u64 d'] = some ((a == a') && ((b == b') && ((c == c') && ((d == d') && true)))) := by
  have hs : Try.prog.stoodInHeld 26 = false := by kernel_rfl
  have hz : szOf Try.prog 24 = some 1 := by kernel_rfl
  have ha : aggT Try.prog 24 = some false := by kernel_rfl
  unfold eqW
  simp only [Try.underlying26, hs]
  simp [eqF, hz, ha, eqW1]
theorem eqPt (p q : Pt) : eqW Try.prog 8 28 [.int .u64 p.x.a, .int .u64 p.x.b, .int .u64 p.x.c, .int .u64 p.x.d, .int .u64 p.y.a, .int .u64 p.y.b, .int .u64 p.y.c, .int .u64 p.y.d, .int .u64 p.w.a, .int .u64 p.w.b, .int .u64 p.w.c, .int .u64 p.w.d] [.int .u64 q.x.a, .int .u64 q.x.b, .int .u64 q.x.c, .int .u64 q.x.d, .int .u64 q.y.a, .int .u64 q.y.b, .int .u64 q.y.c, .int .u64 q.y.d, .int .u64 q.w.a, .int .u64 q.w.b, .int .u64 q.w.c, .int .u64 q.w.d] = some (decide (p = q)) := by
  have hs : Try.prog.stoodInHeld 28 = false := by kernel_rfl
  have hz : szOf Try.prog 26 = some 4 := by kernel_rfl
  have ha : aggT Try.prog 26 = some true := by kernel_rfl
  unfold eqW
  simp only [Try.underlying28, hs]
  simp [eqF, hz, ha, eqW4n]
  obtain ⟨⟨a1, a2, a3, a4⟩, ⟨b1, b2, b3, b4⟩, ⟨c1, c2, c3, c4⟩⟩ := p
  obtain ⟨⟨d1, d2, d3, d4⟩, ⟨e1, e2, e3, e4⟩, ⟨f1, f2, f3, f4⟩⟩ := q
  rw [Bool.eq_iff_iff]
  simp [Pt.mk.injEq, W4.mk.injEq, and_assoc]
theorem cmV_self (p : Pt) : cmV p p = 0 := by
  have := cmV_anti p p; omega
section
attribute [local simp] idf_numS cells_numS numS_fold idf_numI cells_numI numI_fold Pt.av Pt.cells spA spC
set_option maxHeartbeats 2000000 in
theorem cmpPoints_fc (p q : Pt) (hp : p.ok) (hq : q.ok) : FC Try.prog 80 [p.av, q.av] (.int .i64 (cmV p q)) := by
 have pX := W4.bg hp.1
 have pY := W4.bg hp.2.1
 have pW := W4.bg hp.2.2
 have qX := W4.bg hq.1
 have qY := W4.bg hq.2.1
 have qW := W4.bg hq.2.2
 have hcx : FC Try.prog 88 [numI (p.x.v * q.w.v), numI (q.x.v * p.w.v)] (.int .i64 (cmX p q)) := cmp_fc (pX.mul qW) (qX.mul pW) (by omega) (by omega)
 have hcy : FC Try.prog 88 [numI (p.y.v * q.w.v), numI (q.y.v * p.w.v)] (.int .i64 (cmY p q)) := cmp_fc (pY.mul qW) (qY.mul pW) (by omega) (by omega)
 refine .b Try.func80 40 (fun nx K hK => ?_) (hi := by simp [idfL, idf, Pt.av, Pt.cells])
 refine .q ?_
 refine .sq fun K2 hK2 => ?_
 refine .q ?_ (by simp (disch := first|omega|(simp only[ln];omega)) [eqPt]; rfl)
 refine .c (t := decide (p = q)) (fun h10 => ?_) (fun h10 => ?_)
 ·try simp only[dc]at h10
  subst h10
  refine .q ?_
  refine .ret ?_
  exact hK _ _ _ _ trivial ((Fin.m).cast (by rw [cmV_self]))
 ·try simp only[dc]at h10
  refine .skip ?_
  refine hK2 _ ?_
  refine .sq fun K5 hK5 => ?_
  refine .old fun hold => ?_
  refine .d 6 ?_
  refine .k 1 (fun fs6 hfs6 => ?_)
  refine .f (spot_fc p hp) hb84 ?_
  refine DP.runF1q (by simp (disch := first|omega|(simp only[ln];omega)) [runDf.eq_def, runF1, runF2, stepF.eq_def, updo.eq_def, hupo.eq_def, opSto1.eq_def]; rfl) fun fq7 hfq7 => ?_
  simp [qids, asksB, Op.operands, topId] at hfq7
  simp only [updo]
  refine .f (spot_fc q hq) hb84 ?_
  refine .k 2 (fun fs8 hfs8 => ?_)
  refine DQ.sto1 (m := 6) [2] _ (by simp (disch := first|omega|(simp only[ln];omega)) [runDf.eq_def, runF1, runF2, stepF.eq_def, updo.eq_def, hupo.eq_def, opSto1.eq_def]; rfl) rfl (by simp only[ln, hfs6, hfs8];omega) (by kernel_rfl) (by intro k f hk hex; simp only [List.mem_cons, List.not_mem_nil, or_false] at hex; rcases hex with rfl <;> (simp [List.getElem?_append, hfs6, hfs8] at hk; subst hk; refine ⟨?_, by first | omega | (simp; done) | (simp; omega)⟩; simp [qids, asksB, Op.operands, Call.operands, topId, numS, numI, Wd, hfq7]; try omega)) ?_
  try simp only []
  refine DQ.sto1 (m := 6) [] _ (by simp (disch := first|omega|(simp only[ln];omega)) [runDf.eq_def, runF1, runF2, stepF.eq_def, updo.eq_def, hupo.eq_def, opSto1.eq_def]; rfl) rfl (by simp only[ln, hfs6, hfs8];omega) (by kernel_rfl) (by intro k f hk hex; simp only [List.not_mem_nil] at hex) ?_
  try simp only []
  refine hK5 _ ?_
  refine .sq fun K9 hK9 => ?_
  refine .sq fun K10 hK10 => ?_
  refine .d 11 ?_
  refine .k 4 (fun fs11 hfs11 => ?_)
  refine .f (by_fc pX qW (by omega) (by omega)) hb92 ?_
  refine .k 4 (fun fs12 hfs12 => ?_)
  refine .f (by_fc qX pW (by omega) (by omega)) hb92 ?_
  refine .f hcx hb88 ?_
  refine .r 11 (by simp only[ln, hfs11, hfs12];omega) ?_
  refine hK10 _ ?_
  refine .q ?_
  refine .c (t := cmX p q != 0) (fun h27 => ?_) (fun h27 => ?_) (by simp (disch := first|omega|(simp only[ln];omega)) [bne])
  ·try simp only[dc]at h27
   have hne : cmX p q ≠ 0 := by simpa using h27
   refine .q ?_
   refine .ret ?_
   exact hK _ _ _ _ trivial ((Fin.m).cast (by rw [cmV, if_pos hne]))
  ·try simp only[dc]at h27
   have hne : ¬ cmX p q ≠ 0 := by simpa using h27
   refine .skip ?_
   refine hK9 _ ?_
   refine .sq fun K15 hK15 => ?_
   refine .d 11 ?_
   refine .k 4 (fun fs16 hfs16 => ?_)
   refine .f (by_fc pY qW (by omega) (by omega)) hb92 ?_
   refine .k 4 (fun fs17 hfs17 => ?_)
   refine .f (by_fc qY pW (by omega) (by omega)) hb92 ?_
   refine .f hcy hb88 ?_
   refine .r 11 (by simp only[ln, hfs16, hfs17];omega) ?_
   refine hK15 _ ?_
   refine .ret ?_
   exact hK _ _ _ _ trivial ((Fin.m).cast (by rw [cmV, if_neg hne]))
end
section
attribute [local simp] idf_numS cells_numS numS_fold idf_numI cells_numI numI_fold Pt.av Pt.cells
end
section
attribute [local simp] idf_numS cells_numS numS_fold idf_numI cells_numI numI_fold l3A l3C
end

end Go.Proofs.Ytmaebeknmiomnaa

/- Walks: fractions of the program. -/
namespace Go.Proofs.Ytmaebeknmiomnaa
open Go Go.RowKit
set_option linter.unusedSimpArgs false
set_option linter.unusedVariables false
set_option maxRecDepth 100000
attribute [local simp] szT2 byT2 agT2 unT2 zoT2 szT4 byT4 agT4 unT4 zoT4 szT24 byT24 agT24 unT24 zoT24 szT26 byT26 agT26 flT26 fdT26_0 fdT26_1 fdT26_2 fdT26_3 zoT26 szT51 byT51 agT51 flT51 fdT51_0 fdT51_1 zoT51 szT117 byT117 agT117 elT117 unT117 zoT117 szT119 byT119 agT119 flT119 fdT119_0 fdT119_1 zoT119 szT143 byT143 agT143 flT143 fdT143_0 fdT143_1 zoT143 szT200 byT200 agT200 elT200 unT200 zoT200

section
attribute [local simp] idf_numI cells_numI numI_fold
set_option maxHeartbeats 2000000 in
theorem over_fc {j : Nat} (a b : Int) (hb0 : b ≠ 0) (ha : Bg j a) (hb : Bg j b) (hj : j ≤ 16777216) : FC Try.prog 180 [numI a, numI b] (.tup [numI (a / b), numI (a % b)]) := by
 have hD := divWords_fc a.natAbs b.natAbs (by omega) (by have := ha.len; rw [mag_abs]; omega) (by have := hb.len; rw [mag_abs]; omega)
 rw [mag_abs, mag_abs] at hD
 have eu := eu_lem a b hb0
 generalize hq : ((a.natAbs / b.natAbs : Nat) : Int) = q0 at *
 generalize hr : ((a.natAbs % b.natAbs : Nat) : Int) = r0 at *
 have q0n : 0 ≤ q0 := by rw [← hq]; exact Int.natCast_nonneg _
 have r0n : 0 ≤ r0 := by rw [← hr]; exact Int.natCast_nonneg _
 have bq : Bg j q0 := by
   rw [← hq]; unfold Bg at *; rw [Int.natAbs_natCast]; have := Nat.div_le_self a.natAbs b.natAbs; omega
 have br : Bg j r0 := by
   rw [← hr]; unfold Bg at *; rw [Int.natAbs_natCast]; have := Nat.mod_le a.natAbs b.natAbs; omega
 have bqs : ∀ s, Bg j (sg s q0) := fun s => by cases s <;> simp only [sg_true, sg_false]; exact bq; exact bq.neg
 have brs : ∀ s, Bg j (sg s r0) := fun s => by cases s <;> simp only [sg_true, sg_false]; exact br; exact br.neg
 have lq := bq.len
 have lr := br.len
 have hT1 := made_fc (decide (a < 0) != decide (b < 0)) (mag q0) (by omega) (mag_dig _)
 rw [mag_val, Int.natAbs_of_nonneg q0n] at hT1
 have hT2 := made_fc (decide (a < 0)) (mag r0) (by omega) (mag_dig _)
 rw [mag_val, Int.natAbs_of_nonneg r0n] at hT2
 obtain ⟨S, hS⟩ : ∃ S, (decide (a < 0) != decide (b < 0)) = S := ⟨_, rfl⟩
 have hS2 : (decide (a < 0) == decide (b < 0)) = !S := by rw [← hS]; cases decide (a < 0) <;> cases decide (b < 0) <;> rfl
 rw [hS] at eu hT1
 refine .b Try.func180 45 (fun nx K hK => ?_)
 refine .q ?_
 refine .sq fun K2 hK2 => ?_
 refine .region ?_
 refine .kf 4 hD hb172 ?_
 refine .e ?_
 refine hK2 _ ?_
 refine .sq fun K3 hK3 => ?_
 refine .old fun hold => ?_
 refine .d 13 ?_
 refine .k 6 (fun fs4 hfs4 => ?_) (by simp (disch := first|omega|(simp only[ln];omega)) [runDf.eq_def, runF1, runF2, stepF.eq_def, updo.eq_def, hupo.eq_def, opSto1.eq_def, List.take_succ_cons, List.take_zero, hS2]; rfl)
 refine .f hT1 hb174 ?_ (ha := by simp (disch := first|omega|(simp only[ln];omega)) [idf_Wd', hS2])
 refine DP.runF1q (by simp (disch := first|omega|(simp only[ln];omega)) [runDf.eq_def, runF1, runF2, stepF.eq_def, updo.eq_def, hupo.eq_def, opSto1.eq_def, hS2]; rfl) fun fq5 hfq5 => ?_
 simp [qids, asksB, Op.operands, topId] at hfq5
 simp only [updo]
 refine DP.runF1q (by simp (disch := first|omega|(simp only[ln];omega)) [runDf.eq_def, runF1, runF2, stepF.eq_def, updo.eq_def, hupo.eq_def, opSto1.eq_def, hS2]; rfl) fun fq6 hfq6 => ?_
 simp [qids, asksB, Op.operands, topId] at hfq6
 simp only [updo]
 refine DP.runF1q (by simp (disch := first|omega|(simp only[ln];omega)) [runDf.eq_def, runF1, runF2, stepF.eq_def, updo.eq_def, hupo.eq_def, opSto1.eq_def, hS2]; rfl) fun fq7 hfq7 => ?_
 simp [qids, asksB, Op.operands, topId] at hfq7
 simp only [updo]
 refine .f hT2 hb174 ?_ (ha := by simp (disch := first|omega|(simp only[ln];omega)) [idf_Wd', hS2])
 refine .k 2 (fun fs8 hfs8 => ?_) (by simp (disch := first|omega|(simp only[ln];omega)) [runDf.eq_def, runF1, runF2, stepF.eq_def, updo.eq_def, hupo.eq_def, opSto1.eq_def, List.take_succ_cons, List.take_zero, hS2]; rfl)
 refine DQ.sto1 (m := 13) [7, 8, 9] _ (by simp (disch := first|omega|(simp only[ln];omega)) [runDf.eq_def, runF1, runF2, stepF.eq_def, updo.eq_def, hupo.eq_def, opSto1.eq_def, hS2]; rfl) rfl (by simp only[ln, hfs4, hfs8];omega) (by kernel_rfl) (by intro k f hk hex; simp only [List.mem_cons, List.not_mem_nil, or_false] at hex; rcases hex with rfl | rfl | rfl <;> (simp [List.getElem?_append, hfs4, hfs8] at hk; subst hk; refine ⟨?_, by first | omega | (simp; done) | (simp; omega)⟩; simp [qids, asksB, Op.operands, Call.operands, topId, numS, numI, Wd, hfq5, hfq6, hfq7]; try omega)) ?_
 try simp only []
 refine DQ.sto1 (m := 13) [] _ (by simp (disch := first|omega|(simp only[ln];omega)) [runDf.eq_def, runF1, runF2, stepF.eq_def, updo.eq_def, hupo.eq_def, opSto1.eq_def, hS2]; rfl) rfl (by simp only[ln, hfs4, hfs8];omega) (by kernel_rfl) (by intro k f hk hex; simp only [List.not_mem_nil] at hex) ?_
 try simp only []
 refine hK3 _ ?_
 refine .sq fun K9 hK9 => ?_
 refine .q ?_
 refine .c (t := decide (sg (decide (a < 0)) r0 < 0)) (fun h30 => ?_) (fun h30 => ?_)
 ·try simp only[dc]at h30
  refine .sq fun K11 hK11 => ?_
  refine .d 4 ?_
  refine .k 2 (fun fs12 hfs12 => ?_)
  refine .f (abs_fc b) hb217 ?_
  refine .f (plus_fc (brs (decide (a < 0))) hb.abs (by omega) (by omega)) hb101 ?_
  refine .r 4 (by simp only[ln, hfs12];omega) ?_
  refine hK11 _ ?_
  refine .q ?_
  refine .c (t := decide (b < 0)) (fun h36 => ?_) (fun h36 => ?_)
  ·try simp only[dc]at h36
   have e := eu.2.1 h30 h36
   refine .d 3 ?_
   refine .k 1 (fun fs14 hfs14 => ?_)
   refine .f (whole_fc 1 (by omega) (by omega)) hb89 ?_
   refine .f (plus_fc (bqs S) (Bg.i64 (n := 1) (by omega) (by omega)) (by omega) (by omega)) hb101 ?_
   refine .r 3 (by simp only[ln, hfs14];omega) ?_
   refine hK9 _ ?_
   refine .sq fun K15 hK15 => ?_
   refine .old fun hold => ?_
   refine .d 2 ?_
   refine .k 1 (fun fs16 hfs16 => ?_)
   refine DP.runF1q (by simp (disch := first|omega|(simp only[ln];omega)) [runDf.eq_def, runF1, runF2, stepF.eq_def, updo.eq_def, hupo.eq_def, opSto1.eq_def]; rfl) fun fq17 hfq17 => ?_
   simp [qids, asksB, Op.operands, topId] at hfq17
   simp only [updo]
   refine DQ.sto1 (m := 2) [1] _ (by simp (disch := first|omega|(simp only[ln];omega)) [runDf.eq_def, runF1, runF2, stepF.eq_def, updo.eq_def, hupo.eq_def, opSto1.eq_def]; rfl) rfl (by simp only[ln, hfs16];omega) (by kernel_rfl) (by intro k f hk hex; simp only [List.mem_cons, List.not_mem_nil, or_false] at hex; rcases hex with rfl <;> (simp [List.getElem?_append, hfs16] at hk; subst hk; refine ⟨?_, by first | omega | (simp; done) | (simp; omega)⟩; simp [qids, asksB, Op.operands, Call.operands, topId, numS, numI, Wd, hfq17]; try omega)) ?_
   try simp only []
   refine DQ.sto1 (m := 2) [] _ (by simp (disch := first|omega|(simp only[ln];omega)) [runDf.eq_def, runF1, runF2, stepF.eq_def, updo.eq_def, hupo.eq_def, opSto1.eq_def]; rfl) rfl (by simp only[ln, hfs16];omega) (by kernel_rfl) (by intro k f hk hex; simp only [List.not_mem_nil] at hex) ?_
   try simp only []
   refine hK15 _ ?_
   refine .ret ?_
   exact hK _ _ _ _ trivial ((Fin.m).cast (by rw [← e.1, ← e.2, show ((b.natAbs : Nat) : Int) = -b by omega, ← Int.sub_eq_add_neg]))
  ·try simp only[dc]at h36
   have e := eu.2.2 h30 h36
   refine .d 3 ?_
   refine .k 1 (fun fs18 hfs18 => ?_)
   refine .f (whole_fc 1 (by omega) (by omega)) hb89 ?_
   refine .f (less_fc (bqs S) (Bg.i64 (n := 1) (by omega) (by omega)) (by omega) (by omega)) hb109 ?_
   refine .r 3 (by simp only[ln, hfs18];omega) ?_
   refine hK9 _ ?_
   refine .sq fun K19 hK19 => ?_
   refine .old fun hold => ?_
   refine .d 2 ?_
   refine .k 1 (fun fs20 hfs20 => ?_)
   refine DP.runF1q (by simp (disch := first|omega|(simp only[ln];omega)) [runDf.eq_def, runF1, runF2, stepF.eq_def, updo.eq_def, hupo.eq_def, opSto1.eq_def]; rfl) fun fq21 hfq21 => ?_
   simp [qids, asksB, Op.operands, topId] at hfq21
   simp only [updo]
   refine DQ.sto1 (m := 2) [1] _ (by simp (disch := first|omega|(simp only[ln];omega)) [runDf.eq_def, runF1, runF2, stepF.eq_def, updo.eq_def, hupo.eq_def, opSto1.eq_def]; rfl) rfl (by simp only[ln, hfs20];omega) (by kernel_rfl) (by intro k f hk hex; simp only [List.mem_cons, List.not_mem_nil, or_false] at hex; rcases hex with rfl <;> (simp [List.getElem?_append, hfs20] at hk; subst hk; refine ⟨?_, by first | omega | (simp; done) | (simp; omega)⟩; simp [qids, asksB, Op.operands, Call.operands, topId, numS, numI, Wd, hfq21]; try omega)) ?_
   try simp only []
   refine DQ.sto1 (m := 2) [] _ (by simp (disch := first|omega|(simp only[ln];omega)) [runDf.eq_def, runF1, runF2, stepF.eq_def, updo.eq_def, hupo.eq_def, opSto1.eq_def]; rfl) rfl (by simp only[ln, hfs20];omega) (by kernel_rfl) (by intro k f hk hex; simp only [List.not_mem_nil] at hex) ?_
   try simp only []
   refine hK19 _ ?_
   refine .ret ?_
   exact hK _ _ _ _ trivial ((Fin.m).cast (by rw [← e.1, ← e.2, show ((b.natAbs : Nat) : Int) = b by omega]))
 ·try simp only[dc]at h30
  have e := eu.1 h30
  refine .skip ?_
  refine hK9 _ ?_
  refine .sq fun K22 hK22 => ?_
  refine .old fun hold => ?_
  refine .d 2 ?_
  refine .k 1 (fun fs23 hfs23 => ?_)
  refine DP.runF1q (by simp (disch := first|omega|(simp only[ln];omega)) [runDf.eq_def, runF1, runF2, stepF.eq_def, updo.eq_def, hupo.eq_def, opSto1.eq_def]; rfl) fun fq24 hfq24 => ?_
  simp [qids, asksB, Op.operands, topId] at hfq24
  simp only [updo]
  refine DQ.sto1 (m := 2) [1] _ (by simp (disch := first|omega|(simp only[ln];omega)) [runDf.eq_def, runF1, runF2, stepF.eq_def, updo.eq_def, hupo.eq_def, opSto1.eq_def]; rfl) rfl (by simp only[ln, hfs23];omega) (by kernel_rfl) (by intro k f hk hex; simp only [List.mem_cons, List.not_mem_nil, or_false] at hex; rcases hex with rfl <;> (simp [List.getElem?_append, hfs23] at hk; subst hk; refine ⟨?_, by first | omega | (simp; done) | (simp; omega)⟩; simp [qids, asksB, Op.operands, Call.operands, topId, numS, numI, Wd, hfq24]; try omega)) ?_
  try simp only []
  refine DQ.sto1 (m := 2) [] _ (by simp (disch := first|omega|(simp only[ln];omega)) [runDf.eq_def, runF1, runF2, stepF.eq_def, updo.eq_def, hupo.eq_def, opSto1.eq_def]; rfl) rfl (by simp only[ln, hfs23];omega) (by kernel_rfl) (by intro k f hk hex; simp only [List.not_mem_nil] at hex) ?_
  try simp only []
  refine hK22 _ ?_
  refine .ret ?_
  exact hK _ _ _ _ trivial ((Fin.m).cast (by rw [e.1, e.2]))
end
section
attribute [local simp] idf_numI cells_numI numI_fold rtA rtC numC
end
section
attribute [local simp] idf_numI cells_numI numI_fold rtA rtC
end
section
attribute [local simp] idf_numI cells_numI numI_fold Rt.av Rt.cells wdI
end
section
attribute [local simp] idf_numI cells_numI numI_fold Rt.av Rt.cells rtA rtC numC
end

end Go.Proofs.Ytmaebeknmiomnaa

/- Walks: spots and segments. -/
namespace Go.Proofs.Ytmaebeknmiomnaa
open Go Go.RowKit
set_option linter.unusedSimpArgs false
set_option linter.unusedVariables false
set_option maxRecDepth 100000
attribute [local simp] szT2 byT2 agT2 unT2 zoT2 szT3 byT3 agT3 unT3 zoT3 szT26 byT26 agT26 flT26 fdT26_0 fdT26_1 fdT26_2 fdT26_3 zoT26 szT28 byT28 agT28 flT28 fdT28_0 fdT28_1 fdT28_2 zoT28 szT67 byT67 agT67 flT67 fdT67_0 fdT67_1 zoT67 szT69 byT69 agT69 flT69 fdT69_0 fdT69_1 zoT69 szT134 byT134 agT134 flT134 fdT134_0 fdT134_1 zoT134 szT136 byT136 agT136 flT136 fdT136_0 fdT136_1 zoT136

theorem eqW2 (p q : Sp) : eqW Try.prog 8 67 [.int .i64 p.x, .int .i64 p.y] [.int .i64 q.x, .int .i64 q.y] = some (decide (p = q)) := by
  obtain ⟨a, b⟩ := p
  obtain ⟨a', b'⟩ := q
  have hs : Try.prog.stoodInHeld 67 = false := by kernel_rfl
  have hz : szOf Try.prog 2 = some 1 := by kernel_rfl
  have ha : aggT Try.prog 2 = some false := by kernel_rfl
  have e1 : ∀ (n : Nat) (x y : Int), eqW Try.prog (n + 1) 2 [.int .i64 x] [.int .i64 y] = some (x == y) := fun n x y => by
    unfold eqW
    simp only [Try.underlying2]
    first | rfl | simp [eqF]
  unfold eqW
  simp only [Try.underlying67, hs]
  simp [eqF, hz, ha, e1]
  rw [Bool.eq_iff_iff]
  simp
theorem lsS_dec (p q : Sp) : decide (cmS p q < 0) = lsS p q := by rw [Bool.eq_iff_iff, decide_eq_true_eq]; exact cmS_neg
theorem wdZ_l {n : Int} (hf : fits n = true) : wdZ n = .agg (W4z n).l := by
  have e := wdT_l n
  unfold wdT at e
  rw [if_pos hf] at e; exact e
theorem wideOf4_fc (n : Int) (h1 : -9223372036854775808 ≤ n) (h2 : n ≤ 9223372036854775807) (hf : fits n = true) : FC Try.prog 20 [.int .i64 n] (.agg [.int .u64 (W4z n).a, .int .u64 (W4z n).b, .int .u64 (W4z n).c, .int .u64 (W4z n).d]) := by
  have h := wideOf_fc n h1 h2
  rw [wdZ_l hf] at h; exact h
theorem inM_fits {x : Int} (h : inM x = true) : fits x = true := by
  have := inM_b h; unfold fits; simp; omega
theorem sm1 {x y : Int} (hx : inM x = true) (hy : inM y = true) : sm x y 1 = true := by
  have := inM_b hx; have := inM_b hy
  have e : (2 : Nat) ^ 80 = 1208925819614629174706176 := by decide
  simp only [sm, Bool.and_eq_true, decide_eq_true_eq, bitLen_le, e]; omega

theorem within_fc (n a b : Int) : FC Try.prog 135 [.int .i64 n, .int .i64 a, .int .i64 b] (.bool (decide (a ≤ n) && decide (n ≤ b))) := by
 refine .b Try.func135 15 (fun nx K hK => ?_)
 refine .q ?_
 refine .sq fun K2 hK2 => ?_
 cases h : decide (a ≤ n)
 ·refine .r ?_ (by simp (disch := first|omega|(simp only[ln];omega)) [h]; rfl)
  refine hK2 _ ?_
  refine .ret ?_
  exact hK _ _ _ _ trivial ((Fin.m).cast (by rw [h]; rfl))
 ·refine .r ?_ (by simp (disch := first|omega|(simp only[ln];omega)) [h]; rfl)
  refine hK2 _ ?_
  refine .ret ?_
  exact hK _ _ _ _ trivial ((Fin.m).cast (by rw [h]; rfl))
theorem withinM_fc (n : Int) : FC Try.prog 135 [.int .i64 n, .int .i64 (-1000000), .int .i64 1000000] (.bool (inM n)) := within_fc n (-1000000) 1000000
section
attribute [local simp] Sp.av Sp.cells Sg.av Sg.cells
theorem spotOkI_fc (p : Sp) : FC Try.prog 49 [p.av] (.bool p.good) := by
 refine .b Try.func49 11 (fun nx K hK => ?_) (hi := by simp [idfL, idf, Sp.av, Sp.cells, Sg.av, Sg.cells])
 refine .q ?_
 refine .sq fun K2 hK2 => ?_
 cases hx : inM p.x
 ·refine .region ?_
  refine .kf 2 (withinM_fc p.x) hb135 ?_ (by simp (disch := first|omega|(simp only[ln];omega)) [List.take_succ_cons, List.take_zero, hx]; rfl) (ha := by simp (disch := first|omega|(simp only[ln];omega)) [idf_Wd', hx])
  refine .e ?_ (by simp (disch := first|omega|(simp only[ln];omega)) [hx]; rfl)
  refine hK2 _ ?_
  refine .ret ?_
  exact hK _ _ _ _ trivial ((Fin.m).cast (by unfold Sp.good; rw [hx]; rfl))
 ·refine .region ?_
  refine .kf 2 (withinM_fc p.x) hb135 ?_ (by simp (disch := first|omega|(simp only[ln];omega)) [List.take_succ_cons, List.take_zero, hx]; rfl) (ha := by simp (disch := first|omega|(simp only[ln];omega)) [idf_Wd', hx])
  refine .kf 3 (withinM_fc p.y) hb135 ?_ (by simp (disch := first|omega|(simp only[ln];omega)) [List.take_succ_cons, List.take_zero, hx]; rfl) (ha := by simp (disch := first|omega|(simp only[ln];omega)) [idf_Wd', hx])
  refine .e ?_ (by simp (disch := first|omega|(simp only[ln];omega)) [hx]; rfl)
  refine hK2 _ ?_
  refine .ret ?_
  exact hK _ _ _ _ trivial ((Fin.m).cast (by unfold Sp.good; rw [hx]; rfl))
theorem cmpSpots_fc (p q : Sp) : FC Try.prog 134 [p.av, q.av] (.int .i64 (cmS p q)) := by
 refine .b Try.func134 29 (fun nx K hK => ?_) (hi := by simp [idfL, idf, Sp.av, Sp.cells, Sg.av, Sg.cells])
 refine .q ?_
 refine .sq fun K2 hK2 => ?_
 refine .block ?_
 refine .q ?_ (by simp (disch := first|omega|(simp only[ln];omega)) [eqW2]; rfl)
 refine .c (t := decide (p = q)) (fun h5 => ?_) (fun h5 => ?_)
 ·try simp only[dc]at h5
  refine .q ?_
  refine .ret ?_
  exact hK _ _ _ _ trivial ((Fin.m).cast (by unfold cmS; rw [if_pos h5]))
 ·try simp only[dc]at h5
  have hv : cmS p q = if lsS p q = true then -1 else 1 := by unfold cmS; rw [if_neg h5]
  refine .sq fun K5 hK5 => ?_
  by_cases q1 : p.x < q.x
  ·have hl : lsS p q = true := by simp [lsS, q1]
   have c1 : decide (p.x < q.x) = true := by simp [q1]
   refine .r ?_ (by simp (disch := first|omega|(simp only[ln];omega)) [c1]; rfl)
   refine hK5 _ ?_
   refine .c (fun h9 => ?_) (fun h9 => ?_)
   ·try simp only[dc]at h9
    refine .q ?_
    refine .ret ?_
    exact hK _ _ _ _ trivial ((Fin.m).cast (by rw [hv, hl]; rfl))
   ·simp at h9
  ·have c1 : decide (p.x < q.x) = false := by simp; omega
   by_cases q2 : p.x = q.x
   ·have c2 : (p.x == q.x) = true := by simp [q2]
    refine .r ?_ (by simp (disch := first|omega|(simp only[ln];omega)) [c1, c2]; rfl)
    refine hK5 _ ?_
    refine .c (t := decide (p.y < q.y)) (fun h9 => ?_) (fun h9 => ?_)
    ·try simp only[dc]at h9
     refine .q ?_
     refine .ret ?_
     exact hK _ _ _ _ trivial ((Fin.m).cast (by rw [hv, show lsS p q = true by simp [lsS, q2, h9]]; rfl))
    ·try simp only[dc]at h9
     refine .skip ?_
     refine hK2 _ ?_
     refine .q ?_
     refine .ret ?_
     exact hK _ _ _ _ trivial ((Fin.m).cast (by rw [hv, show lsS p q = false by simp [lsS, q2]; omega]; rfl))
   ·have c2 : (p.x == q.x) = false := by simp [q2]
    refine .r ?_ (by simp (disch := first|omega|(simp only[ln];omega)) [c1, c2]; rfl)
    refine hK5 _ ?_
    refine .c (fun h9 => ?_) (fun h9 => ?_)
    ·simp at h9
    ·try simp only[dc]at h9
     refine .skip ?_
     refine hK2 _ ?_
     refine .q ?_
     refine .ret ?_
     exact hK _ _ _ _ trivial ((Fin.m).cast (by rw [hv, show lsS p q = false by simp [lsS, q2]; omega]; rfl))
theorem segOkI_fc (s : Sg) : FC Try.prog 48 [s.av] (.bool s.good) := by
 refine .b Try.func48 19 (fun nx K hK => ?_) (hi := by simp [idfL, idf, Sp.av, Sp.cells, Sg.av, Sg.cells])
 refine .q ?_
 refine .sq fun K2 hK2 => ?_
 cases ha : s.a.good
 ·refine .region ?_
  refine .kf 2 (spotOkI_fc s.a) hb49 ?_ (by simp (disch := first|omega|(simp only[ln];omega)) [List.take_succ_cons, List.take_zero, ha]; rfl) (ha := by simp (disch := first|omega|(simp only[ln];omega)) [idf_Wd', ha])
  refine .e ?_ (by simp (disch := first|omega|(simp only[ln];omega)) [ha]; rfl)
  refine hK2 _ ?_
  refine .ret ?_
  exact hK _ _ _ _ trivial ((Fin.m).cast (by unfold Sg.good; rw [ha]; rfl))
 ·cases hb : s.b.good
  ·refine .region ?_
   refine .kf 2 (spotOkI_fc s.a) hb49 ?_ (by simp (disch := first|omega|(simp only[ln];omega)) [List.take_succ_cons, List.take_zero, ha, hb]; rfl) (ha := by simp (disch := first|omega|(simp only[ln];omega)) [idf_Wd', ha, hb])
   refine .kf 3 (spotOkI_fc s.b) hb49 ?_ (by simp (disch := first|omega|(simp only[ln];omega)) [List.take_succ_cons, List.take_zero, ha, hb]; rfl) (ha := by simp (disch := first|omega|(simp only[ln];omega)) [idf_Wd', ha, hb])
   refine .e ?_ (by simp (disch := first|omega|(simp only[ln];omega)) [ha, hb]; rfl)
   refine hK2 _ ?_
   refine .ret ?_
   exact hK _ _ _ _ trivial ((Fin.m).cast (by unfold Sg.good; rw [ha, hb]; rfl))
  ·refine .region ?_
   refine .kf 2 (spotOkI_fc s.a) hb49 ?_ (by simp (disch := first|omega|(simp only[ln];omega)) [List.take_succ_cons, List.take_zero, ha, hb, lsS_dec]; rfl) (ha := by simp (disch := first|omega|(simp only[ln];omega)) [idf_Wd', ha, hb, lsS_dec])
   refine .kf 3 (spotOkI_fc s.b) hb49 ?_ (by simp (disch := first|omega|(simp only[ln];omega)) [List.take_succ_cons, List.take_zero, ha, hb, lsS_dec]; rfl) (ha := by simp (disch := first|omega|(simp only[ln];omega)) [idf_Wd', ha, hb, lsS_dec])
   refine .kf 6 (cmpSpots_fc s.a s.b) hb134 ?_ (by simp (disch := first|omega|(simp only[ln];omega)) [List.take_succ_cons, List.take_zero, ha, hb, lsS_dec]; rfl) (ha := by simp (disch := first|omega|(simp only[ln];omega)) [idf_Wd', ha, hb, lsS_dec])
   refine .e ?_ (by simp (disch := first|omega|(simp only[ln];omega)) [ha, hb, lsS_dec]; rfl)
   refine hK2 _ ?_
   refine .ret ?_
   exact hK _ _ _ _ trivial ((Fin.m).cast (by unfold Sg.good; rw [ha, hb]; rfl))
set_option maxHeartbeats 1000000 in
theorem cross_fc (a b c : Sp) (ha : a.good = true) (hb : b.good = true) (hc : c.good = true) : FC Try.prog 187 [a.av, b.av, c.av] (.int .i64 (crs a b c)) := by
 have pa := Sp.b ha
 have pb := Sp.b hb
 have pc := Sp.b hc
 have m1 := mul_b (u := b.x - a.x) (v := c.y - a.y) (m := 2000000) (n := 2000000) (by omega) (by omega) (by omega) (by omega) (by omega)
 have m2 := mul_b (u := b.y - a.y) (v := c.x - a.x) (m := 2000000) (n := 2000000) (by omega) (by omega) (by omega) (by omega) (by omega)
 refine .b Try.func187 30 (fun nx K hK => ?_) (hi := by simp [idfL, idf, Sp.av, Sp.cells, Sg.av, Sg.cells])
 refine .q ?_
 refine .q ?_
 refine .ret ?_
 exact hK _ _ _ _ trivial ((Fin.m).cast (by rfl))
end
theorem signI_fc (n : Int) : FC Try.prog 188 [.int .i64 n] (.int .i64 (sg3 n)) := by
 refine .b Try.func188 9 (fun nx K hK => ?_)
 refine .q ?_
 refine .sq fun K2 hK2 => ?_
 refine .block ?_
 refine .q ?_
 refine .c (t := decide (n < 0)) (fun h3 => ?_) (fun h3 => ?_)
 ·try simp only[dc]at h3
  refine .q ?_
  refine .ret ?_
  exact hK _ _ _ _ trivial ((Fin.m).cast (by unfold sg3; rw [if_pos h3]))
 ·try simp only[dc]at h3
  refine .q ?_
  refine .c (t := decide (0 < n)) (fun h6 => ?_) (fun h6 => ?_)
  ·try simp only[dc]at h6
   refine .q ?_
   refine .ret ?_
   exact hK _ _ _ _ trivial ((Fin.m).cast (by unfold sg3; rw [if_neg h3, if_pos h6]))
  ·try simp only[dc]at h6
   refine .skip ?_
   refine hK2 _ ?_
   refine .q ?_
   refine .ret ?_
   exact hK _ _ _ _ trivial ((Fin.m).cast (by unfold sg3; rw [if_neg h3, if_neg h6]))
section
attribute [local simp] Sp.av Sp.cells Sg.av Sg.cells
theorem pointOfI_fc (p : Sp) (hp : p.good = true) : FC Try.prog 50 [p.av] (.agg [.int .u64 (ptS p).x.a, .int .u64 (ptS p).x.b, .int .u64 (ptS p).x.c, .int .u64 (ptS p).x.d, .int .u64 (ptS p).y.a, .int .u64 (ptS p).y.b, .int .u64 (ptS p).y.c, .int .u64 (ptS p).y.d, .int .u64 (ptS p).w.a, .int .u64 (ptS p).w.b, .int .u64 (ptS p).w.c, .int .u64 (ptS p).w.d]) := by
 have pb := Sp.b hp
 have hx : inM p.x = true := by simp [inM]; omega
 have hy : inM p.y = true := by simp [inM]; omega
 have hs := sm1 hx hy
 refine .b Try.func50 11 (fun nx K hK => ?_) (hi := by simp [idfL, idf, Sp.av, Sp.cells, Sg.av, Sg.cells])
 refine .q ?_
 refine .sq fun K2 hK2 => ?_
 refine .d 8 ?_
 refine .k 2 (fun fs3 hfs3 => ?_)
 refine .f (wideOf4_fc p.x (by omega) (by omega) (inM_fits hx)) hb20 ?_
 refine .k 2 (fun fs4 hfs4 => ?_)
 refine .f (wideOf4_fc p.y (by omega) (by omega) (inM_fits hy)) hb20 ?_
 refine .f (wideOf4_fc 1 (by omega) (by omega) (by decide)) hb20 ?_
 refine .k 1 (fun fs5 hfs5 => ?_)
 refine .r 8 (by simp only[ln, hfs3, hfs4, hfs5];omega) ?_
 refine hK2 _ ?_
 refine .ret ?_
 exact hK _ _ _ _ trivial ((Fin.m).cast (by rw [ptS, pt3, if_pos hs]))
end

end Go.Proofs.Ytmaebeknmiomnaa

/- Walks: where segments meet, by the program. -/
namespace Go.Proofs.Ytmaebeknmiomnaa
open Go Go.RowKit
set_option linter.unusedSimpArgs false
set_option linter.unusedVariables false
set_option maxRecDepth 100000
attribute [local simp] szT2 byT2 agT2 unT2 zoT2 szT4 byT4 agT4 unT4 zoT4 szT24 byT24 agT24 unT24 zoT24 szT26 byT26 agT26 flT26 fdT26_0 fdT26_1 fdT26_2 fdT26_3 zoT26 szT28 byT28 agT28 flT28 fdT28_0 fdT28_1 fdT28_2 zoT28 szT117 byT117 agT117 elT117 unT117 zoT117 szT119 byT119 agT119 flT119 fdT119_0 fdT119_1 zoT119 szT121 byT121 agT121 flT121 fdT121_0 fdT121_1 fdT121_2 zoT121 szT200 byT200 agT200 elT200 unT200 zoT200

theorem mx_fold (a b : Int) : (if a < b then b else a) = mx a b := rfl
theorem mn_fold (a b : Int) : (if b < a then b else a) = mn a b := rfl
theorem max_sm2 (x y w : Int) : decide (80 < (if (if bitLen x.natAbs < bitLen y.natAbs then (bitLen y.natAbs : Int) else (bitLen x.natAbs : Int)) < (bitLen w.natAbs : Int) then (bitLen w.natAbs : Int) else if bitLen x.natAbs < bitLen y.natAbs then (bitLen y.natAbs : Int) else (bitLen x.natAbs : Int))) = !sm x y w := by
  rw [← max_sm]
  generalize (if (if bitLen x.natAbs < bitLen y.natAbs then (bitLen y.natAbs : Int) else (bitLen x.natAbs : Int)) < (bitLen w.natAbs : Int) then (bitLen w.natAbs : Int) else if bitLen x.natAbs < bitLen y.natAbs then (bitLen y.natAbs : Int) else (bitLen x.natAbs : Int)) = m
  rw [Bool.eq_iff_iff]; simp
theorem gcd3_x (x y w : Int) : gcd3 x y w ∣ x := Int.dvd_trans (by unfold gcd3; exact Int.ofNat_dvd.2 (Nat.gcd_dvd_left _ _)) (Int.gcd_dvd_left (a := x) (b := y))
theorem gcd3_y (x y w : Int) : gcd3 x y w ∣ y := Int.dvd_trans (by unfold gcd3; exact Int.ofNat_dvd.2 (Nat.gcd_dvd_left _ _)) (Int.gcd_dvd_right (a := x) (b := y))
theorem gcd3_w (x y w : Int) : gcd3 x y w ∣ w := by unfold gcd3; exact Int.dvd_natAbs.1 (Int.ofNat_dvd.2 (Nat.gcd_dvd_right _ _))
theorem div_nrm {x y w z g : Int} (hg : gcd3 x y w = g) (hz : g ∣ z) : z / (if w < 0 then -g else g) = nrm w z / g := by
  unfold nrm; split
  · rw [Int.ediv_neg, Int.neg_ediv_of_dvd hz]
  · rfl

section
attribute [local simp] idf_numI cells_numI numI_fold spA spC numC
set_option maxHeartbeats 4000000 in
theorem spotPoint_fc {j : Nat} (x y w : Int) (bx : Bg j x) (bY : Bg j y) (bw : Bg j w) (hj : j ≤ 16777216) : FC Try.prog 93 [spA x y w] (.tup [.agg [.int .u64 (mkP x y w).x.a, .int .u64 (mkP x y w).x.b, .int .u64 (mkP x y w).x.c, .int .u64 (mkP x y w).x.d, .int .u64 (mkP x y w).y.a, .int .u64 (mkP x y w).y.b, .int .u64 (mkP x y w).y.c, .int .u64 (mkP x y w).y.d, .int .u64 (mkP x y w).w.a, .int .u64 (mkP x y w).w.b, .int .u64 (mkP x y w).w.c, .int .u64 (mkP x y w).w.d], .bool (mkB x y w)]) := by
 obtain ⟨cs, hsf, hse⟩ : ∃ c : Int, FC Try.prog 85 [numI w] (.int .i64 c) ∧ (c == 0) = decide (w = 0) := ⟨_, sign_fc w, by
   by_cases h : w = 0
   · subst h; rfl
   · have : (if w < 0 then (-1 : Int) else if w > 0 then 1 else 0) ≠ 0 := by split <;> (try split) <;> omega
     rw [beq_eq_false_iff_ne.2 this]; simp [h]⟩
 refine .b Try.func93 80 (fun nx K hK => ?_)
 refine .q ?_
 refine .sq fun K2 hK2 => ?_
 refine .sq fun K3 hK3 => ?_
 refine .region ?_
 refine .kf 2 hsf hb85 ?_
 refine .e ?_
 refine hK3 _ ?_
 refine .c (t := decide (w = 0)) (fun h15 => ?_) (fun h15 => ?_) (by simp (disch := first|omega|(simp only[ln];omega)) [hse])
 ·try simp only[dc]at h15
  refine .q ?_
  refine .ret ?_
  exact hK _ _ _ _ trivial ((Fin.m).cast (by unfold mkP mkB; rw [if_pos h15, if_pos h15]; rfl))
 ·try simp only[dc]at h15
  have hw : w ≠ 0 := h15
  have hgp := gcd3_pos (x := x) (y := y) hw
  have hgx := gcd3_x x y w
  have hgy := gcd3_y x y w
  have hgw := gcd3_w x y w
  have eP : mkP x y w = pt3 (nrm w x / gcd3 x y w) (nrm w y / gcd3 x y w) (nrm w w / gcd3 x y w) := by unfold mkP; rw [if_neg hw]
  have eB : mkB x y w = sm (nrm w x / gcd3 x y w) (nrm w y / gcd3 x y w) (nrm w w / gcd3 x y w) := by unfold mkB; rw [if_neg hw]
  have bG : Bg j (gcd3 x y w) := by
    have b1 : Bg j ((Int.gcd x y : Nat) : Int) := Bg.gcd bx.abs bY.abs
    exact Bg.gcd b1 bw.abs
  have hg2 : FC Try.prog 87 [.isl [numC x, numC y, numC w]] (numI (gcd3 x y w)) := by
    have h := gcd_fc (j := j) [x, y, w] (by intro z hz; simp only [List.mem_cons, List.not_mem_nil, or_false] at hz; rcases hz with rfl | rfl | rfl <;> assumption) (by omega) (by simp)
    rw [gcdL_three] at h; exact h
  generalize hgg : gcd3 x y w = g at *
  have bX := (bx.nrm (w := w)).div hgp
  have bYY := (bY.nrm (w := w)).div hgp
  have bW := (bw.nrm (w := w)).div hgp
  refine .skip ?_
  refine hK2 _ ?_
  refine .sq fun K5 hK5 => ?_
  refine .region ?_
  refine .k 7 ?_
  refine AOPS.frz1 23 (nx + 1 + 1) 2 [numC x, numC y, numC w] (.isl [numC x, numC y, numC w]) (by simp [numC]) (by simp [fz, numC]) ?_
  refine .f hg2 hb87 ?_
  refine .e ?_
  refine hK5 _ ?_
  refine .sq fun K6 hK6 => ?_
  have J6 : ∀ s : St, (∃ D : Int, D = (if w < 0 then -g else g) ∧ s.env 1 = .ptr nx 0 0 ∧ s.env 2 = .ptr (nx + 1) 0 0 ∧ s.env 4 = .ptr (nx + 1 + 1 + 1) 0 0 ∧ s.env 3 = .bool false ∧ s.heap nx = some (6, [[.bool (decide (x < 0)), Wd .u64 (mag x), .bool (decide (y < 0)), Wd .u64 (mag y), .bool (decide (w < 0)), Wd .u64 (mag w)]]) ∧ s.heap (nx + 1) = some (12, [[.int .u64 0, .int .u64 0, .int .u64 0, .int .u64 0, .int .u64 0, .int .u64 0, .int .u64 0, .int .u64 0, .int .u64 0, .int .u64 0, .int .u64 0, .int .u64 0]]) ∧ s.heap (nx + 1 + 1 + 1) = some (2, [[.bool (decide (D < 0)), Wd .u64 (mag (D))]]) ∧ nx + 1 + 1 + 1 < s.nx ∧ s.nt = 80) → K6 s := by
   rintro ⟨e, H, mm, nt⟩ ⟨D, hD, h1, h2, h4, h3, hA, hB, hC, hm, rfl⟩
   simp only [] at h1 h2 h4 h3 hA hB hC hm
   have dX := div_nrm hgg hgx
   have dY := div_nrm hgg hgy
   have dW := div_nrm hgg hgw
   rw [← hD] at dX dY dW
   have bD : Bg j D := by rw [hD]; split; exact bG.neg; exact bG
   have hDn : D ≠ 0 := by rw [hD]; split <;> omega
   have ox := over_fc x D hDn bx bD hj
   have oy := over_fc y D hDn bY bD hj
   have ow := over_fc w D hDn bw bD hj
   rw [dX] at ox
   rw [dY] at oy
   rw [dW] at ow
   generalize nrm w x / g = X at *
   generalize nrm w y / g = Y at *
   generalize nrm w w / g = W at *
   have hms := max_sm2 X Y W
   have w1 := wide_fc bX (by omega)
   have w2 := wide_fc bYY (by omega)
   have w3 := wide_fc bW (by omega)
   rw [wdT_l] at w1 w2 w3
   unfold W4.l at w1 w2 w3
   clear dX dY dW
   refine hK6 _ ?_
   refine .sq fun K7 hK7 => ?_
   refine .region ?_
   refine .kf 3 ox hb180 ?_ (by simp (disch := first|omega|(simp only[ln];omega)) [List.take_succ_cons, List.take_zero, h1, h4, hA, hC]; rfl) (ha := by simp (disch := first|omega|(simp only[ln];omega)) [idf_Wd', h1, h4, hA, hC])
   refine .e ?_ (by simp (disch := first|omega|(simp only[ln];omega)) [h1, h4, hA, hC]; rfl)
   refine hK7 _ ?_
   refine .sq fun K8 hK8 => ?_
   refine .region ?_
   refine .kf 3 oy hb180 ?_ (by simp (disch := first|omega|(simp only[ln];omega)) [List.take_succ_cons, List.take_zero, h1, h4, hA, hC]; rfl) (ha := by simp (disch := first|omega|(simp only[ln];omega)) [idf_Wd', h1, h4, hA, hC])
   refine .e ?_ (by simp (disch := first|omega|(simp only[ln];omega)) [h1, h4, hA, hC]; rfl)
   refine hK8 _ ?_
   refine .sq fun K9 hK9 => ?_
   refine .region ?_
   refine .kf 3 ow hb180 ?_ (by simp (disch := first|omega|(simp only[ln];omega)) [List.take_succ_cons, List.take_zero, h1, h4, hA, hC]; rfl) (ha := by simp (disch := first|omega|(simp only[ln];omega)) [idf_Wd', h1, h4, hA, hC])
   refine .e ?_ (by simp (disch := first|omega|(simp only[ln];omega)) [h1, h4, hA, hC]; rfl)
   refine hK9 _ ?_
   refine .sq fun K10 hK10 => ?_
   refine .sq fun K11 hK11 => ?_
   refine .d 8 ?_
   refine .k 1 (fun fs12 hfs12 => ?_) (by simp (disch := first|omega|(simp only[ln];omega)) [runDf.eq_def, runF1, runF2, stepF.eq_def, updo.eq_def, hupo.eq_def, opSto1.eq_def, List.take_succ_cons, List.take_zero, hms]; rfl)
   refine .f (size_fc bX (by omega)) hb86 ?_ (ha := by simp (disch := first|omega|(simp only[ln];omega)) [idf_Wd', hms])
   refine .k 1 (fun fs13 hfs13 => ?_) (by simp (disch := first|omega|(simp only[ln];omega)) [runDf.eq_def, runF1, runF2, stepF.eq_def, updo.eq_def, hupo.eq_def, opSto1.eq_def, List.take_succ_cons, List.take_zero, hms]; rfl)
   refine .f (size_fc bYY (by omega)) hb86 ?_ (ha := by simp (disch := first|omega|(simp only[ln];omega)) [idf_Wd', hms])
   refine .k 1 (fun fs14 hfs14 => ?_) (by simp (disch := first|omega|(simp only[ln];omega)) [runDf.eq_def, runF1, runF2, stepF.eq_def, updo.eq_def, hupo.eq_def, opSto1.eq_def, List.take_succ_cons, List.take_zero, hms]; rfl)
   refine .f (size_fc bW (by omega)) hb86 ?_ (ha := by simp (disch := first|omega|(simp only[ln];omega)) [idf_Wd', hms])
   refine .k 2 (fun fs15 hfs15 => ?_) (by simp (disch := first|omega|(simp only[ln];omega)) [runDf.eq_def, runF1, runF2, stepF.eq_def, updo.eq_def, hupo.eq_def, opSto1.eq_def, List.take_succ_cons, List.take_zero, hms]; rfl)
   refine .r 8 (by simp only[ln, hfs12, hfs13, hfs14, hfs15];omega) ?_ (by simp (disch := first|omega|(simp only[ln];omega)) [runDf.eq_def, runF1, runF2, stepF.eq_def, updo.eq_def, hupo.eq_def, opSto1.eq_def, hms]; rfl)
   refine hK11 _ ?_
   refine .c (t := !sm X Y W) (fun h58 => ?_) (fun h58 => ?_)
   ·try simp only[dc]at h58
    have hb : sm X Y W = false := by simpa using h58
    refine .q ?_ (by simp (disch := first|omega|(simp only[ln];omega)) [h2, hB]; rfl)
    refine .ret ?_
    exact hK _ _ _ _ trivial ((Fin.mk (by simp (disch := omega) [aRes, aResL, aRes1, h2]; rfl)).cast (by rw [eP, eB, pt3, hb]; rfl))
   ·try simp only[dc]at h58
    have hb : sm X Y W = true := by simpa using h58
    refine .skip ?_
    refine hK10 _ ?_
    refine .q ?_
    refine .sq fun K18 hK18 => ?_
    refine .region ?_
    refine .kf 1 w1 hb90 ?_
    refine .e ?_
    refine hK18 _ ?_
    refine .sq fun K19 hK19 => ?_
    refine .region ?_
    refine .kf 1 w2 hb90 ?_
    refine .e ?_
    refine hK19 _ ?_
    refine .sq fun K20 hK20 => ?_
    refine .region ?_
    refine .kf 1 w3 hb90 ?_
    refine .e ?_
    refine hK20 _ ?_
    refine .q ?_ (by simp (disch := first|omega|(simp only[ln];omega)) [h2, hB]; rfl)
    refine .ret ?_
    exact hK _ _ _ _ trivial ((Fin.mk (by simp (disch := omega) [aRes, aResL, aRes1, h2]; rfl)).cast (by rw [eP, eB, pt3, if_pos hb, hb]))
  refine .q ?_
  refine .c (t := decide (w < 0)) (fun h27 => ?_) (fun h27 => ?_)
  ·try simp only[dc]at h27
   refine .region ?_
   refine .kf 1 (minus_fc bG (by omega)) hb179 ?_
   refine .e ?_
   refine J6 _ ?_
   exact ⟨-g, by simp [h27], by simp, by simp, by simp, by simp, by simp (disch := omega), by simp (disch := omega), by simp (disch := omega), by simp, rfl⟩
  ·try simp only[dc]at h27
   refine .skip ?_
   refine J6 _ ?_
   exact ⟨g, by simp [h27], by simp, by simp, by simp, by simp, by simp (disch := omega), by simp (disch := omega), by simp (disch := omega), by simp, rfl⟩
end
section
attribute [local simp] idf_numI cells_numI numI_fold
theorem none_fc  : FC Try.prog 186 [] (.tup [.int .i64 0, .agg [.int .u64 (pt0).x.a, .int .u64 (pt0).x.b, .int .u64 (pt0).x.c, .int .u64 (pt0).x.d, .int .u64 (pt0).y.a, .int .u64 (pt0).y.b, .int .u64 (pt0).y.c, .int .u64 (pt0).y.d, .int .u64 (pt0).w.a, .int .u64 (pt0).w.b, .int .u64 (pt0).w.c, .int .u64 (pt0).w.d], .agg [.int .u64 (pt0).x.a, .int .u64 (pt0).x.b, .int .u64 (pt0).x.c, .int .u64 (pt0).x.d, .int .u64 (pt0).y.a, .int .u64 (pt0).y.b, .int .u64 (pt0).y.c, .int .u64 (pt0).y.d, .int .u64 (pt0).w.a, .int .u64 (pt0).w.b, .int .u64 (pt0).w.c, .int .u64 (pt0).w.d]]) := by
 refine .b Try.func186 5 (fun nx K hK => ?_)
 refine .q ?_
 refine .q ?_
 refine .ret ?_
 exact hK _ _ _ _ trivial ((Fin.m).cast (by rfl))
end

end Go.Proofs.Ytmaebeknmiomnaa

/- Walks: where segments meet, by the program (2). -/
namespace Go.Proofs.Ytmaebeknmiomnaa
open Go Go.RowKit
set_option linter.unusedSimpArgs false
set_option linter.unusedVariables false
set_option maxRecDepth 100000
attribute [local simp] szT2 byT2 agT2 unT2 zoT2 szT3 byT3 agT3 unT3 zoT3 szT4 byT4 agT4 unT4 zoT4 szT26 byT26 agT26 flT26 fdT26_0 fdT26_1 fdT26_2 fdT26_3 zoT26 szT28 byT28 agT28 flT28 fdT28_0 fdT28_1 fdT28_2 zoT28 szT67 byT67 agT67 flT67 fdT67_0 fdT67_1 zoT67 szT69 byT69 agT69 flT69 fdT69_0 fdT69_1 zoT69 szT117 byT117 agT117 elT117 unT117 zoT117 szT119 byT119 agT119 flT119 fdT119_0 fdT119_1 zoT119 szT121 byT121 agT121 flT121 fdT121_0 fdT121_1 fdT121_2 zoT121

theorem hbNone : hasBody Try.prog 186 = true := by kernel_rfl
theorem mul_sg (a b : Int) : -1 ≤ sg3 a * sg3 b ∧ sg3 a * sg3 b ≤ 1 := by
  have := sg3_b a; have := sg3_b b
  have := mul_b (u := sg3 a) (v := sg3 b) (m := 1) (n := 1) (by omega) (by omega) (by omega) (by omega) (by omega)
  omega
theorem lsS_dec2 (p q : Sp) : decide (0 < cmS p q) = lsS q p := by rw [Bool.eq_iff_iff, decide_eq_true_eq]; exact cmS_pos
theorem cmS_deq (p q : Sp) : (cmS p q == 0) = decide (p = q) := by rw [Bool.eq_iff_iff, beq_iff_eq, decide_eq_true_eq]; exact cmS_zero

section
attribute [local simp] idf_numI cells_numI numI_fold Sp.av Sp.cells Sg.av Sg.cells spA spC
set_option maxHeartbeats 8000000 in
theorem meetI_fc (u v : Sg) (gu : u.good = true) (gv : v.good = true) : FC Try.prog 98 [u.av, v.av] (.tup [.int .i64 (meetI u v).1, .agg [.int .u64 ((meetI u v).2.1).x.a, .int .u64 ((meetI u v).2.1).x.b, .int .u64 ((meetI u v).2.1).x.c, .int .u64 ((meetI u v).2.1).x.d, .int .u64 ((meetI u v).2.1).y.a, .int .u64 ((meetI u v).2.1).y.b, .int .u64 ((meetI u v).2.1).y.c, .int .u64 ((meetI u v).2.1).y.d, .int .u64 ((meetI u v).2.1).w.a, .int .u64 ((meetI u v).2.1).w.b, .int .u64 ((meetI u v).2.1).w.c, .int .u64 ((meetI u v).2.1).w.d], .agg [.int .u64 ((meetI u v).2.2).x.a, .int .u64 ((meetI u v).2.2).x.b, .int .u64 ((meetI u v).2.2).x.c, .int .u64 ((meetI u v).2.2).x.d, .int .u64 ((meetI u v).2.2).y.a, .int .u64 ((meetI u v).2.2).y.b, .int .u64 ((meetI u v).2.2).y.c, .int .u64 ((meetI u v).2.2).y.d, .int .u64 ((meetI u v).2.2).w.a, .int .u64 ((meetI u v).2.2).w.b, .int .u64 ((meetI u v).2.2).w.c, .int .u64 ((meetI u v).2.2).w.d]]) := by
 have ua := good_a gu
 have ub := good_b gu
 have va := good_a gv
 have vb := good_b gv
 have pua := Sp.b ua
 have pub := Sp.b ub
 have pva := Sp.b va
 have pvb := Sp.b vb
 obtain ⟨A, hA⟩ : ∃ A, crs u.a u.b v.a = A := ⟨_, rfl⟩
 obtain ⟨B, hB⟩ : ∃ B, crs u.a u.b v.b = B := ⟨_, rfl⟩
 obtain ⟨C, hC⟩ : ∃ C, crs v.a v.b u.a = C := ⟨_, rfl⟩
 obtain ⟨D, hD⟩ : ∃ D, crs v.a v.b u.b = D := ⟨_, rfl⟩
 have cA := cross_fc u.a u.b v.a ua ub va
 have cB := cross_fc u.a u.b v.b ua ub vb
 have cC := cross_fc v.a v.b u.a va vb ua
 have cD := cross_fc v.a v.b u.b va vb ub
 have bA := crs_b ua ub va
 have bB := crs_b ua ub vb
 rw [hA] at cA bA
 rw [hB] at cB bB
 rw [hC] at cC
 rw [hD] at cD
 have hnw : noWay u v = (decide (0 < sg3 A * sg3 B) || decide (0 < sg3 C * sg3 D)) := by unfold noWay; rw [hA, hB, hC, hD]
 have hmt : apart u v = true → meetI u v = (0, pt0, pt0) := fun h => by unfold meetI; rw [if_pos h]
 have hmf : apart u v = false → meetI u v = if A = 0 ∧ B = 0 then linP u v else if noWay u v = true then (0, pt0, pt0) else (1, mkP (wayX u v) (wayY u v) (wayW u v), pt0) := fun h => by unfold meetI; rw [h, hA, hB]; rfl
 have hap : apart u v = (decide (mn u.b.x v.b.x < mx u.a.x v.a.x) || decide (mn (mx u.a.y u.b.y) (mx v.a.y v.b.y) < mx (mn u.a.y u.b.y) (mn v.a.y v.b.y))) := rfl
 have eW : wayW u v = A - B := by unfold wayW; rw [hA, hB]
 have eX : wayX u v = v.a.x * (A - B) + A * (v.b.x - v.a.x) := by unfold wayX; rw [eW, hA]
 have eY : wayY u v = v.a.y * (A - B) + A * (v.b.y - v.a.y) := by unfold wayY; rw [eW, hA]
 have sAB := mul_sg A B
 have sCD := mul_sg C D
 clear hA hB hC hD
 refine .b Try.func98 215 (fun nx K hK => ?_) (hi := by simp [idfL, idf, Sp.av, Sp.cells, Sg.av, Sg.cells])
 refine .q ?_
 refine .q ?_
 refine .sq fun K3 hK3 => ?_
 refine .sq fun K4 hK4 => ?_
 cases q1 : decide (mn u.b.x v.b.x < mx u.a.x v.a.x)
 ·refine .r ?_ (by simp (disch := first|omega|(simp only[ln];omega)) [mx_fold, mn_fold, q1]; rfl)
  refine hK4 _ ?_
  refine .c (t := decide (mn (mx u.a.y u.b.y) (mx v.a.y v.b.y) < mx (mn u.a.y u.b.y) (mn v.a.y v.b.y))) (fun h67 => ?_) (fun h67 => ?_)
  ·try simp only[dc]at h67
   have hm := hmt (by rw [hap, decide_eq_true h67]; simp)
   refine .sq fun K5 hK5 => ?_
   refine .region ?_
   refine .k 1 ?_
   refine AOPS.fcall (none_fc) rfl rfl (by simp; rfl) hbNone (by simp (disch := first|omega|(simp only[ln];omega)) [idf_Wd']) (by simp (disch := first|omega|(simp only[ln];omega))) (by simp) ?_
   simp only [puts_some, updo]
   refine .e ?_
   refine hK5 _ ?_
   refine .ret ?_
   exact hK _ _ _ _ trivial ((Fin.m).cast (by rw [hm]; try rfl))
  ·try simp only[dc]at h67
   have hm := hmf (by rw [hap, q1, decide_eq_false h67]; rfl)
   refine .skip ?_
   refine hK3 _ ?_
   refine .sq fun K6 hK6 => ?_
   refine .d 14 ?_
   refine .k 6 (fun fs7 hfs7 => ?_)
   refine .f cA hb187 ?_
   refine .k 6 (fun fs8 hfs8 => ?_)
   refine .f cB hb187 ?_
   refine .r 14 (by simp only[ln, hfs7, hfs8];omega) ?_
   refine hK6 _ ?_
   refine .sq fun K9 hK9 => ?_
   refine .sq fun K10 hK10 => ?_
   by_cases hA0 : A = 0
   ·have c1 : (A == 0) = true := by simp [hA0]
    by_cases hB0 : B = 0
    ·have c2 : (B == 0) = true := by simp [hB0]
     have hm' := hm
     rw [if_pos ⟨hA0, hB0⟩] at hm'
     refine .r ?_ (by simp (disch := first|omega|(simp only[ln];omega)) [c1, c2]; rfl)
     refine hK10 _ ?_
     refine .c (fun h92 => ?_) (fun h92 => ?_)
     ·try simp only[dc]at h92
      refine .sq fun K11 hK11 => ?_
      refine .old fun hold => ?_
      refine .d 6 ?_
      refine .k 2 (fun fs12 hfs12 => ?_)
      refine DP.runF1q (by simp (disch := first|omega|(simp only[ln];omega)) [runDf.eq_def, runF1, runF2, stepF.eq_def, updo.eq_def, hupo.eq_def, opSto1.eq_def]; rfl) fun fq13 hfq13 => ?_
      simp [qids, asksB, Op.operands, topId] at hfq13
      simp only [updo]
      refine DP.runF1q (by simp (disch := first|omega|(simp only[ln];omega)) [runDf.eq_def, runF1, runF2, stepF.eq_def, updo.eq_def, hupo.eq_def, opSto1.eq_def]; rfl) fun fq14 hfq14 => ?_
      simp [qids, asksB, Op.operands, topId] at hfq14
      simp only [updo]
      refine .k 2 (fun fs15 hfs15 => ?_)
      refine DQ.sto1 (m := 6) [2, 3] _ (by simp (disch := first|omega|(simp only[ln];omega)) [runDf.eq_def, runF1, runF2, stepF.eq_def, updo.eq_def, hupo.eq_def, opSto1.eq_def]; rfl) rfl (by simp only[ln, hfs12, hfs15];omega) (by kernel_rfl) (by intro k f hk hex; simp only [List.mem_cons, List.not_mem_nil, or_false] at hex; rcases hex with rfl | rfl <;> (simp [List.getElem?_append, hfs12, hfs15] at hk; subst hk; refine ⟨?_, by first | omega | (simp; done) | (simp; omega)⟩; simp [qids, asksB, Op.operands, Call.operands, topId, numS, numI, Wd, hfq13, hfq14]; try omega)) ?_
      try simp only []
      refine DQ.sto1 (m := 6) [] _ (by simp (disch := first|omega|(simp only[ln];omega)) [runDf.eq_def, runF1, runF2, stepF.eq_def, updo.eq_def, hupo.eq_def, opSto1.eq_def]; rfl) rfl (by simp only[ln, hfs12, hfs15];omega) (by kernel_rfl) (by intro k f hk hex; simp only [List.not_mem_nil] at hex) ?_
      try simp only []
      refine hK11 _ ?_
      refine .sq fun K16 hK16 => ?_
      have J16 : ∀ s : St, (∃ (lo hi : Sp) (ia ib : Nat), lo = lowS u v ∧ hi = u.b ∧ s.env 2 = .ptr nx 0 0 ∧ s.env 3 = .ptr (nx + 1) 0 0 ∧ s.env 5 = .ptr (nx + 1 + 1) 0 0 ∧ s.env 6 = .ptr (nx + 1 + 1 + 1) 0 0 ∧ s.env 7 = .fn 186 [] ∧ s.env 10 = .ptr ia 0 0 ∧ s.env 11 = .ptr ib 0 0 ∧ s.heap nx = some (4, [[.int .i64 u.a.x, .int .i64 u.a.y, .int .i64 u.b.x, .int .i64 u.b.y]]) ∧ s.heap (nx + 1) = some (4, [[.int .i64 v.a.x, .int .i64 v.a.y, .int .i64 v.b.x, .int .i64 v.b.y]]) ∧ s.heap (nx + 1 + 1) = some (12, [[.int .u64 0, .int .u64 0, .int .u64 0, .int .u64 0, .int .u64 0, .int .u64 0, .int .u64 0, .int .u64 0, .int .u64 0, .int .u64 0, .int .u64 0, .int .u64 0]]) ∧ s.heap (nx + 1 + 1 + 1) = some (12, [[.int .u64 0, .int .u64 0, .int .u64 0, .int .u64 0, .int .u64 0, .int .u64 0, .int .u64 0, .int .u64 0, .int .u64 0, .int .u64 0, .int .u64 0, .int .u64 0]]) ∧ s.heap ia = some (2, [[.int .i64 lo.x, .int .i64 lo.y]]) ∧ s.heap ib = some (2, [[.int .i64 hi.x, .int .i64 hi.y]]) ∧ (nx + 1 + 1 + 1) < ia ∧ ia < ib ∧ ib < s.nx ∧ s.nt = 215) → K16 s := by
       rintro ⟨e, H, mm, nt⟩ ⟨lo, hi, ia, ib, hlo, hhi, g2, g3, g5, g6, g7, g10, g11, hU, hV, hP, hQ, hL, hH, hia, hib, hm, rfl⟩
       simp only [] at g2 g3 g5 g6 g7 g10 g11 hU hV hP hQ hL hH hia hib hm
       rw [hhi] at hH
       clear hhi hi
       refine hK16 _ ?_
       refine .sq fun K17 hK17 => ?_
       have J17 : ∀ s : St, (∃ (lo hi : Sp) (ia ib : Nat), lo = lowS u v ∧ hi = highS u v ∧ s.env 2 = .ptr nx 0 0 ∧ s.env 3 = .ptr (nx + 1) 0 0 ∧ s.env 5 = .ptr (nx + 1 + 1) 0 0 ∧ s.env 6 = .ptr (nx + 1 + 1 + 1) 0 0 ∧ s.env 7 = .fn 186 [] ∧ s.env 10 = .ptr ia 0 0 ∧ s.env 11 = .ptr ib 0 0 ∧ s.heap nx = some (4, [[.int .i64 u.a.x, .int .i64 u.a.y, .int .i64 u.b.x, .int .i64 u.b.y]]) ∧ s.heap (nx + 1) = some (4, [[.int .i64 v.a.x, .int .i64 v.a.y, .int .i64 v.b.x, .int .i64 v.b.y]]) ∧ s.heap (nx + 1 + 1) = some (12, [[.int .u64 0, .int .u64 0, .int .u64 0, .int .u64 0, .int .u64 0, .int .u64 0, .int .u64 0, .int .u64 0, .int .u64 0, .int .u64 0, .int .u64 0, .int .u64 0]]) ∧ s.heap (nx + 1 + 1 + 1) = some (12, [[.int .u64 0, .int .u64 0, .int .u64 0, .int .u64 0, .int .u64 0, .int .u64 0, .int .u64 0, .int .u64 0, .int .u64 0, .int .u64 0, .int .u64 0, .int .u64 0]]) ∧ s.heap ia = some (2, [[.int .i64 lo.x, .int .i64 lo.y]]) ∧ s.heap ib = some (2, [[.int .i64 hi.x, .int .i64 hi.y]]) ∧ (nx + 1 + 1 + 1) < ia ∧ ia < ib ∧ ib < s.nx ∧ s.nt = 215) → K17 s := by
        clear g2 g3 g5 g6 g7 g10 g11 hU hV hP hQ hL hH hia hib hm hlo lo
        rintro ⟨e, H, mm, nt⟩ ⟨lo, hi, ia, ib, hlo, hhi, g2, g3, g5, g6, g7, g10, g11, hU, hV, hP, hQ, hL, hH, hia, hib, hm, rfl⟩
        simp only [] at g2 g3 g5 g6 g7 g10 g11 hU hV hP hQ hL hH hia hib hm
        have gl : lo.good = true := by rw [hlo]; unfold lowS; split; exact va; exact ua
        have gh : hi.good = true := by rw [hhi]; unfold highS; split; exact vb; exact ub
        have hli : linP u v = if lsS hi lo = true then (0, pt0, pt0) else if lo = hi then (1, ptS lo, pt0) else (2, ptS lo, ptS hi) := by rw [hlo, hhi]; rfl
        clear hlo hhi
        refine hK17 _ ?_
        refine .sq fun K18 hK18 => ?_
        refine .sq fun K19 hK19 => ?_
        refine .region ?_
        refine .kf 2 (cmpSpots_fc lo hi) hb134 ?_ (by simp (disch := first|omega|(simp only[ln];omega)) [List.take_succ_cons, List.take_zero, g2, g3, g5, g6, g7, g10, g11, hU, hV, hP, hQ, hL, hH]; rfl) (ha := by simp (disch := first|omega|(simp only[ln];omega)) [idf_Wd', g2, g3, g5, g6, g7, g10, g11, hU, hV, hP, hQ, hL, hH])
        refine .e ?_ (by simp (disch := first|omega|(simp only[ln];omega)) [g2, g3, g5, g6, g7, g10, g11, hU, hV, hP, hQ, hL, hH]; rfl)
        refine hK19 _ ?_
        refine .block ?_
        refine .q ?_
        refine .c (t := lsS hi lo) (fun h114 => ?_) (fun h114 => ?_) (by simp (disch := first|omega|(simp only[ln];omega)) [lsS_dec2])
        ·try simp only[dc]at h114
         refine .sq fun K21 hK21 => ?_
         refine .region ?_
         refine .k 1 ?_ (by simp (disch := first|omega|(simp only[ln];omega)) [List.take_succ_cons, List.take_zero, g2, g3, g5, g6, g7, g10, g11, hU, hV, hP, hQ, hL, hH]; rfl)
         refine AOPS.fcall (none_fc) rfl rfl (by simp; rfl) hbNone (by simp (disch := first|omega|(simp only[ln];omega)) [idf_Wd', g2, g3, g5, g6, g7, g10, g11, hU, hV, hP, hQ, hL, hH]) (by simp (disch := first|omega|(simp only[ln];omega)) [g2, g3, g5, g6, g7, g10, g11, hU, hV, hP, hQ, hL, hH]) (by simp) ?_
         simp only [puts_some, updo]
         refine .e ?_ (by simp (disch := first|omega|(simp only[ln];omega)) [g2, g3, g5, g6, g7, g10, g11, hU, hV, hP, hQ, hL, hH]; rfl)
         refine hK21 _ ?_
         refine .ret ?_
         exact hK _ _ _ _ trivial ((Fin.mk (by simp (disch := omega) [aRes, aResL, aRes1, g5, g6]; rfl)).cast (by rw [hm', hli, if_pos h114]; try rfl))
        ·try simp only[dc]at h114
         refine .q ?_
         refine .c (t := decide (lo = hi)) (fun h122 => ?_) (fun h122 => ?_) (by simp (disch := first|omega|(simp only[ln];omega)) [cmS_deq])
         ·try simp only[dc]at h122
          refine .sq fun K23 hK23 => ?_
          refine .region ?_
          refine .kf 1 (pointOfI_fc lo gl) hb50 ?_ (by simp (disch := first|omega|(simp only[ln];omega)) [List.take_succ_cons, List.take_zero, g2, g3, g5, g6, g7, g10, g11, hU, hV, hP, hQ, hL, hH]; rfl) (ha := by simp (disch := first|omega|(simp only[ln];omega)) [idf_Wd', g2, g3, g5, g6, g7, g10, g11, hU, hV, hP, hQ, hL, hH])
          refine .e ?_ (by simp (disch := first|omega|(simp only[ln];omega)) [g2, g3, g5, g6, g7, g10, g11, hU, hV, hP, hQ, hL, hH]; rfl)
          refine hK23 _ ?_
          refine .ret ?_
          exact hK _ _ _ _ trivial ((Fin.mk (by simp (disch := omega) [aRes, aResL, aRes1, g5, g6]; rfl)).cast (by rw [hm', hli, if_neg (by rw [h114]; simp), if_pos h122]; try rfl))
         ·try simp only[dc]at h122
          refine .skip ?_
          refine hK18 _ ?_
          refine .sq fun K24 hK24 => ?_
          refine .old fun hold => ?_
          refine .d 4 ?_
          refine .k 1 (fun fs25 hfs25 => ?_) (by simp (disch := first|omega|(simp only[ln];omega)) [runDf.eq_def, runF1, runF2, stepF.eq_def, updo.eq_def, hupo.eq_def, opSto1.eq_def, List.take_succ_cons, List.take_zero, g2, g3, g5, g6, g7, g10, g11, hU, hV, hP, hQ, hL, hH]; rfl)
          refine .f (pointOfI_fc lo gl) hb50 ?_ (ha := by simp (disch := first|omega|(simp only[ln];omega)) [idf_Wd', g2, g3, g5, g6, g7, g10, g11, hU, hV, hP, hQ, hL, hH])
          refine DP.runF1q (by simp (disch := first|omega|(simp only[ln];omega)) [runDf.eq_def, runF1, runF2, stepF.eq_def, updo.eq_def, hupo.eq_def, opSto1.eq_def, g2, g3, g5, g6, g7, g10, g11, hU, hV, hP, hQ, hL, hH]; rfl) fun fq26 hfq26 => ?_
          simp [qids, asksB, Op.operands, topId] at hfq26
          simp only [updo]
          refine .f (pointOfI_fc hi gh) hb50 ?_ (ha := by simp (disch := first|omega|(simp only[ln];omega)) [idf_Wd', g2, g3, g5, g6, g7, g10, g11, hU, hV, hP, hQ, hL, hH])
          refine DQ.asg1 _ rfl rfl ?_
          simp only [updo]
          refine DQ.sto1 (m := 4) [2, 3] _ (by simp (disch := first|omega|(simp only[ln];omega)) [runDf.eq_def, runF1, runF2, stepF.eq_def, updo.eq_def, hupo.eq_def, opSto1.eq_def, g2, g3, g5, g6, g7, g10, g11, hU, hV, hP, hQ, hL, hH]; rfl) rfl (by simp only[ln, hfs25];omega) (by kernel_rfl) (by intro k f hk hex; simp only [List.mem_cons, List.not_mem_nil, or_false] at hex; rcases hex with rfl | rfl <;> (simp [List.getElem?_append, hfs25] at hk; subst hk; refine ⟨?_, by first | omega | (simp; done) | (simp; omega)⟩; simp [qids, asksB, Op.operands, Call.operands, topId, numS, numI, Wd, hfq26, g2, g3, g5, g6, g7, g10, g11]; try omega)) ?_
          try simp only []
          refine DQ.sto1 (m := 4) [] _ (by simp (disch := first|omega|(simp only[ln];omega)) [runDf.eq_def, runF1, runF2, stepF.eq_def, updo.eq_def, hupo.eq_def, opSto1.eq_def, g2, g3, g5, g6, g7, g10, g11, hU, hV, hP, hQ, hL, hH]; rfl) rfl (by simp only[ln, hfs25];omega) (by kernel_rfl) (by intro k f hk hex; simp only [List.not_mem_nil] at hex) ?_
          try simp only []
          refine hK24 _ ?_
          refine .ret ?_
          exact hK _ _ _ _ trivial ((Fin.mk (by simp (disch := omega) [aRes, aResL, aRes1, g5, g6]; rfl)).cast (by rw [hm', hli, if_neg (by rw [h114]; simp), if_neg h122]; try rfl))
       refine .sq fun K27 hK27 => ?_
       refine .region ?_
       refine .kf 3 (cmpSpots_fc v.b u.b) hb134 ?_ (by simp (disch := first|omega|(simp only[ln];omega)) [List.take_succ_cons, List.take_zero, g2, g3, g5, g6, g7, g10, g11, hU, hV, hP, hQ, hL, hH]; rfl) (ha := by simp (disch := first|omega|(simp only[ln];omega)) [idf_Wd', g2, g3, g5, g6, g7, g10, g11, hU, hV, hP, hQ, hL, hH])
       refine .e ?_ (by simp (disch := first|omega|(simp only[ln];omega)) [g2, g3, g5, g6, g7, g10, g11, hU, hV, hP, hQ, hL, hH]; rfl)
       refine hK27 _ ?_
       refine .c (t := lsS v.b u.b) (fun h108 => ?_) (fun h108 => ?_) (by simp (disch := first|omega|(simp only[ln];omega)) [lsS_dec])
       ·try simp only[dc]at h108
        refine .r ?_ (by simp (disch := first|omega|(simp only[ln];omega)) [g2, g3, g5, g6, g7, g10, g11, hU, hV, hP, hQ, hL, hH]; rfl)
        refine J17 _ ?_
        exact ⟨lo, v.b, ia, ib, hlo, by unfold highS; rw [if_pos h108], by first | (simp; done) | (simp [g2, g3, g5, g6, g7, g10, g11]; done), by first | (simp; done) | (simp [g2, g3, g5, g6, g7, g10, g11]; done), by first | (simp; done) | (simp [g2, g3, g5, g6, g7, g10, g11]; done), by first | (simp; done) | (simp [g2, g3, g5, g6, g7, g10, g11]; done), by first | (simp; done) | (simp [g2, g3, g5, g6, g7, g10, g11]; done), by first | (simp; done) | (simp [g2, g3, g5, g6, g7, g10, g11]; done), by first | (simp; done) | (simp [g2, g3, g5, g6, g7, g10, g11]; done), by first | (simp (disch := omega); done) | (simp (disch := omega) [hU, hV, hP, hQ, hL, hH]; done), by first | (simp (disch := omega); done) | (simp (disch := omega) [hU, hV, hP, hQ, hL, hH]; done), by first | (simp (disch := omega); done) | (simp (disch := omega) [hU, hV, hP, hQ, hL, hH]; done), by first | (simp (disch := omega); done) | (simp (disch := omega) [hU, hV, hP, hQ, hL, hH]; done), by first | (simp (disch := omega); done) | (simp (disch := omega) [hU, hV, hP, hQ, hL, hH]; done), by first | (simp (disch := omega); done) | (simp (disch := omega) [hU, hV, hP, hQ, hL, hH]; done), by omega, by omega, by first | omega | (simp; done) | (simp; omega), rfl⟩
       ·try simp only[dc]at h108
        refine .skip ?_
        refine J17 _ ?_
        exact ⟨lo, u.b, ia, ib, hlo, by unfold highS; rw [h108]; rfl, by first | (simp; done) | (simp [g2, g3, g5, g6, g7, g10, g11]; done), by first | (simp; done) | (simp [g2, g3, g5, g6, g7, g10, g11]; done), by first | (simp; done) | (simp [g2, g3, g5, g6, g7, g10, g11]; done), by first | (simp; done) | (simp [g2, g3, g5, g6, g7, g10, g11]; done), by first | (simp; done) | (simp [g2, g3, g5, g6, g7, g10, g11]; done), by first | (simp; done) | (simp [g2, g3, g5, g6, g7, g10, g11]; done), by first | (simp; done) | (simp [g2, g3, g5, g6, g7, g10, g11]; done), by first | (simp (disch := omega); done) | (simp (disch := omega) [hU, hV, hP, hQ, hL, hH]; done), by first | (simp (disch := omega); done) | (simp (disch := omega) [hU, hV, hP, hQ, hL, hH]; done), by first | (simp (disch := omega); done) | (simp (disch := omega) [hU, hV, hP, hQ, hL, hH]; done), by first | (simp (disch := omega); done) | (simp (disch := omega) [hU, hV, hP, hQ, hL, hH]; done), by first | (simp (disch := omega); done) | (simp (disch := omega) [hU, hV, hP, hQ, hL, hH]; done), by first | (simp (disch := omega); done) | (simp (disch := omega) [hU, hV, hP, hQ, hL, hH]; done), by omega, by omega, by first | omega | (simp; done) | (simp; omega), rfl⟩
      refine .sq fun K28 hK28 => ?_
      refine .region ?_
      refine .kf 3 (cmpSpots_fc v.a u.a) hb134 ?_
      refine .e ?_
      refine hK28 _ ?_
      refine .c (t := lsS u.a v.a) (fun h101 => ?_) (fun h101 => ?_) (by simp (disch := first|omega|(simp only[ln];omega)) [lsS_dec2])
      ·try simp only[dc]at h101
       refine .r ?_
       refine J16 _ ?_
       exact ⟨v.a, u.b, (nx + 1 + 1 + 1 + 1) + 16 + 4, (nx + 1 + 1 + 1 + 1) + 16 + 5, by unfold lowS; rw [if_pos h101], rfl, by simp, by simp, by simp, by simp, by simp, by simp, by simp, by simp (disch := omega), by simp (disch := omega), by simp (disch := omega), by simp (disch := omega), by simp (disch := omega), by simp (disch := omega), by omega, by omega, by first | omega | (simp; done) | (simp; omega), rfl⟩
      ·try simp only[dc]at h101
       refine .skip ?_
       refine J16 _ ?_
       exact ⟨u.a, u.b, (nx + 1 + 1 + 1 + 1) + 16 + 4, (nx + 1 + 1 + 1 + 1) + 16 + 5, by unfold lowS; rw [h101]; rfl, rfl, by simp, by simp, by simp, by simp, by simp, by simp, by simp, by simp (disch := omega), by simp (disch := omega), by simp (disch := omega), by simp (disch := omega), by simp (disch := omega), by simp (disch := omega), by omega, by omega, by first | omega | (simp; done) | (simp; omega), rfl⟩
     ·simp at h92
    ·have c2 : (B == 0) = false := by simp [hB0]
     have hm' := hm
     rw [if_neg (fun h => hB0 h.2)] at hm'
     refine .r ?_ (by simp (disch := first|omega|(simp only[ln];omega)) [c1, c2]; rfl)
     refine hK10 _ ?_
     refine .c (fun h92 => ?_) (fun h92 => ?_)
     ·simp at h92
     ·try simp only[dc]at h92
      refine .skip ?_
      refine hK9 _ ?_
      refine .sq fun K29 hK29 => ?_
      refine .d 14 ?_
      refine .k 6 (fun fs30 hfs30 => ?_)
      refine .f cC hb187 ?_
      refine .k 6 (fun fs31 hfs31 => ?_)
      refine .f cD hb187 ?_
      refine .r 14 (by simp only[ln, hfs30, hfs31];omega) ?_
      refine hK29 _ ?_
      refine .sq fun K32 hK32 => ?_
      refine .sq fun K33 hK33 => ?_
      cases q3 : decide (0 < sg3 A * sg3 B)
      ·refine .region ?_
       refine .kf 1 (signI_fc A) hb188 ?_ (by simp (disch := first|omega|(simp only[ln];omega)) [List.take_succ_cons, List.take_zero, q3]; rfl) (ha := by simp (disch := first|omega|(simp only[ln];omega)) [idf_Wd', q3])
       refine .kf 1 (signI_fc B) hb188 ?_ (by simp (disch := first|omega|(simp only[ln];omega)) [List.take_succ_cons, List.take_zero, q3]; rfl) (ha := by simp (disch := first|omega|(simp only[ln];omega)) [idf_Wd', q3])
       refine .kf 4 (signI_fc C) hb188 ?_ (by simp (disch := first|omega|(simp only[ln];omega)) [List.take_succ_cons, List.take_zero, q3]; rfl) (ha := by simp (disch := first|omega|(simp only[ln];omega)) [idf_Wd', q3])
       refine .kf 1 (signI_fc D) hb188 ?_ (by simp (disch := first|omega|(simp only[ln];omega)) [List.take_succ_cons, List.take_zero, q3]; rfl) (ha := by simp (disch := first|omega|(simp only[ln];omega)) [idf_Wd', q3])
       refine .e ?_ (by simp (disch := first|omega|(simp only[ln];omega)) [q3]; rfl)
       refine hK33 _ ?_
       refine .c (t := decide (0 < sg3 C * sg3 D)) (fun h159 => ?_) (fun h159 => ?_)
       ·try simp only[dc]at h159
        have hw : noWay u v = true := by rw [hnw, q3]; simp [h159]
        refine .sq fun K34 hK34 => ?_
        refine .region ?_
        refine .k 1 ?_
        refine AOPS.fcall (none_fc) rfl rfl (by simp; rfl) hbNone (by simp (disch := first|omega|(simp only[ln];omega)) [idf_Wd']) (by simp (disch := first|omega|(simp only[ln];omega))) (by simp) ?_
        simp only [puts_some, updo]
        refine .e ?_
        refine hK34 _ ?_
        refine .ret ?_
        exact hK _ _ _ _ trivial ((Fin.m).cast (by rw [hm', if_pos hw]; try rfl))
       ·try simp only[dc]at h159
        have hw : ¬ noWay u v = true := by rw [hnw, q3]; simp; omega
        have b1 : Bg 1 v.a.x := Bg.i64 (by omega) (by omega)
        have b2 : Bg 1 v.a.y := Bg.i64 (by omega) (by omega)
        have b3 : Bg 1 A := Bg.i64 (by omega) (by omega)
        have b4 : Bg 1 (A - B) := Bg.i64 (by omega) (by omega)
        have b5 : Bg 1 (v.b.x - v.a.x) := Bg.i64 (by omega) (by omega)
        have b6 : Bg 1 (v.b.y - v.a.y) := Bg.i64 (by omega) (by omega)
        refine .skip ?_
        refine hK32 _ ?_
        refine .sq fun K35 hK35 => ?_
        refine .region ?_
        refine .kf 3 (whole_fc (A - B) (by omega) (by omega)) hb89 ?_
        refine .e ?_
        refine hK35 _ ?_
        refine .sq fun K36 hK36 => ?_
        refine .d 19 ?_
        refine .k 3 (fun fs37 hfs37 => ?_)
        refine .f (whole_fc v.a.x (by omega) (by omega)) hb89 ?_
        refine .k 1 (fun fs38 hfs38 => ?_)
        refine .f (by_fc b1 b4 (by omega) (by omega)) hb92 ?_
        refine .k 1 (fun fs39 hfs39 => ?_)
        refine .f (whole_fc A (by omega) (by omega)) hb89 ?_
        refine .k 7 (fun fs40 hfs40 => ?_)
        refine .f (whole_fc (v.b.x - v.a.x) (by omega) (by omega)) hb89 ?_
        refine .f (by_fc b3 b5 (by omega) (by omega)) hb92 ?_
        refine .f (plus_fc (b1.mul b4) (b3.mul b5) (by omega) (by omega)) hb101 ?_
        refine .k 1 (fun fs41 hfs41 => ?_)
        refine .r 19 (by simp only[ln, hfs37, hfs38, hfs39, hfs40, hfs41];omega) ?_
        refine hK36 _ ?_
        refine .sq fun K42 hK42 => ?_
        refine .d 19 ?_
        refine .k 3 (fun fs43 hfs43 => ?_)
        refine .f (whole_fc v.a.y (by omega) (by omega)) hb89 ?_
        refine .k 1 (fun fs44 hfs44 => ?_)
        refine .f (by_fc b2 b4 (by omega) (by omega)) hb92 ?_
        refine .k 1 (fun fs45 hfs45 => ?_)
        refine .f (whole_fc A (by omega) (by omega)) hb89 ?_
        refine .k 7 (fun fs46 hfs46 => ?_)
        refine .f (whole_fc (v.b.y - v.a.y) (by omega) (by omega)) hb89 ?_
        refine .f (by_fc b3 b6 (by omega) (by omega)) hb92 ?_
        refine .f (plus_fc (b2.mul b4) (b3.mul b6) (by omega) (by omega)) hb101 ?_
        refine .k 1 (fun fs47 hfs47 => ?_)
        refine .r 19 (by simp only[ln, hfs43, hfs44, hfs45, hfs46, hfs47];omega) ?_
        refine hK42 _ ?_
        refine .sq fun K48 hK48 => ?_
        refine .region ?_
        refine .kf 4 (spotPoint_fc (j := 3) (v.a.x * (A - B) + A * (v.b.x - v.a.x)) (v.a.y * (A - B) + A * (v.b.y - v.a.y)) (A - B) (((b1.mul b4).add (b3.mul b5)).le (by omega)) (((b2.mul b4).add (b3.mul b6)).le (by omega)) (b4.le (by omega)) (by omega)) hb93 ?_
        refine .e ?_
        refine hK48 _ ?_
        refine .sq fun K49 hK49 => ?_
        refine .old fun hold => ?_
        refine .d 2 ?_
        refine .k 1 (fun fs50 hfs50 => ?_)
        refine DP.runF1q (by simp (disch := first|omega|(simp only[ln];omega)) [runDf.eq_def, runF1, runF2, stepF.eq_def, updo.eq_def, hupo.eq_def, opSto1.eq_def]; rfl) fun fq51 hfq51 => ?_
        simp [qids, asksB, Op.operands, topId] at hfq51
        simp only [updo]
        refine DQ.asg1 _ rfl rfl ?_
        simp only [updo]
        refine DQ.sto1 (m := 2) [1] _ (by simp (disch := first|omega|(simp only[ln];omega)) [runDf.eq_def, runF1, runF2, stepF.eq_def, updo.eq_def, hupo.eq_def, opSto1.eq_def]; rfl) rfl (by simp only[ln, hfs50];omega) (by kernel_rfl) (by intro k f hk hex; simp only [List.mem_cons, List.not_mem_nil, or_false] at hex; rcases hex with rfl <;> (simp [List.getElem?_append, hfs50] at hk; subst hk; refine ⟨?_, by first | omega | (simp; done) | (simp; omega)⟩; simp [qids, asksB, Op.operands, Call.operands, topId, numS, numI, Wd, hfq51]; try omega)) ?_
        try simp only []
        refine DQ.sto1 (m := 2) [] _ (by simp (disch := first|omega|(simp only[ln];omega)) [runDf.eq_def, runF1, runF2, stepF.eq_def, updo.eq_def, hupo.eq_def, opSto1.eq_def]; rfl) rfl (by simp only[ln, hfs50];omega) (by kernel_rfl) (by intro k f hk hex; simp only [List.not_mem_nil] at hex) ?_
        try simp only []
        refine hK49 _ ?_
        refine .ret ?_
        exact hK _ _ _ _ trivial ((Fin.m).cast (by rw [hm', if_neg hw, eX, eY, eW]; try rfl))
      ·refine .region ?_
       refine .kf 1 (signI_fc A) hb188 ?_ (by simp (disch := first|omega|(simp only[ln];omega)) [List.take_succ_cons, List.take_zero, q3]; rfl) (ha := by simp (disch := first|omega|(simp only[ln];omega)) [idf_Wd', q3])
       refine .kf 1 (signI_fc B) hb188 ?_ (by simp (disch := first|omega|(simp only[ln];omega)) [List.take_succ_cons, List.take_zero, q3]; rfl) (ha := by simp (disch := first|omega|(simp only[ln];omega)) [idf_Wd', q3])
       refine .e ?_ (by simp (disch := first|omega|(simp only[ln];omega)) [q3]; rfl)
       refine hK33 _ ?_
       refine .c (fun h159 => ?_) (fun h159 => ?_)
       ·try simp only[dc]at h159
        have hw : noWay u v = true := by rw [hnw, q3]; rfl
        refine .sq fun K52 hK52 => ?_
        refine .region ?_
        refine .k 1 ?_
        refine AOPS.fcall (none_fc) rfl rfl (by simp; rfl) hbNone (by simp (disch := first|omega|(simp only[ln];omega)) [idf_Wd']) (by simp (disch := first|omega|(simp only[ln];omega))) (by simp) ?_
        simp only [puts_some, updo]
        refine .e ?_
        refine hK52 _ ?_
        refine .ret ?_
        exact hK _ _ _ _ trivial ((Fin.m).cast (by rw [hm', if_pos hw]; try rfl))
       ·simp at h159
   ·have c1 : (A == 0) = false := by simp [hA0]
    have hm' := hm
    rw [if_neg (fun h => hA0 h.1)] at hm'
    refine .r ?_ (by simp (disch := first|omega|(simp only[ln];omega)) [c1]; rfl)
    refine hK10 _ ?_
    refine .c (fun h92 => ?_) (fun h92 => ?_)
    ·simp at h92
    ·try simp only[dc]at h92
     refine .skip ?_
     refine hK9 _ ?_
     refine .sq fun K53 hK53 => ?_
     refine .d 14 ?_
     refine .k 6 (fun fs54 hfs54 => ?_)
     refine .f cC hb187 ?_
     refine .k 6 (fun fs55 hfs55 => ?_)
     refine .f cD hb187 ?_
     refine .r 14 (by simp only[ln, hfs54, hfs55];omega) ?_
     refine hK53 _ ?_
     refine .sq fun K56 hK56 => ?_
     refine .sq fun K57 hK57 => ?_
     cases q3 : decide (0 < sg3 A * sg3 B)
     ·refine .region ?_
      refine .kf 1 (signI_fc A) hb188 ?_ (by simp (disch := first|omega|(simp only[ln];omega)) [List.take_succ_cons, List.take_zero, q3]; rfl) (ha := by simp (disch := first|omega|(simp only[ln];omega)) [idf_Wd', q3])
      refine .kf 1 (signI_fc B) hb188 ?_ (by simp (disch := first|omega|(simp only[ln];omega)) [List.take_succ_cons, List.take_zero, q3]; rfl) (ha := by simp (disch := first|omega|(simp only[ln];omega)) [idf_Wd', q3])
      refine .kf 4 (signI_fc C) hb188 ?_ (by simp (disch := first|omega|(simp only[ln];omega)) [List.take_succ_cons, List.take_zero, q3]; rfl) (ha := by simp (disch := first|omega|(simp only[ln];omega)) [idf_Wd', q3])
      refine .kf 1 (signI_fc D) hb188 ?_ (by simp (disch := first|omega|(simp only[ln];omega)) [List.take_succ_cons, List.take_zero, q3]; rfl) (ha := by simp (disch := first|omega|(simp only[ln];omega)) [idf_Wd', q3])
      refine .e ?_ (by simp (disch := first|omega|(simp only[ln];omega)) [q3]; rfl)
      refine hK57 _ ?_
      refine .c (t := decide (0 < sg3 C * sg3 D)) (fun h159 => ?_) (fun h159 => ?_)
      ·try simp only[dc]at h159
       have hw : noWay u v = true := by rw [hnw, q3]; simp [h159]
       refine .sq fun K58 hK58 => ?_
       refine .region ?_
       refine .k 1 ?_
       refine AOPS.fcall (none_fc) rfl rfl (by simp; rfl) hbNone (by simp (disch := first|omega|(simp only[ln];omega)) [idf_Wd']) (by simp (disch := first|omega|(simp only[ln];omega))) (by simp) ?_
       simp only [puts_some, updo]
       refine .e ?_
       refine hK58 _ ?_
       refine .ret ?_
       exact hK _ _ _ _ trivial ((Fin.m).cast (by rw [hm', if_pos hw]; try rfl))
      ·try simp only[dc]at h159
       have hw : ¬ noWay u v = true := by rw [hnw, q3]; simp; omega
       have b1 : Bg 1 v.a.x := Bg.i64 (by omega) (by omega)
       have b2 : Bg 1 v.a.y := Bg.i64 (by omega) (by omega)
       have b3 : Bg 1 A := Bg.i64 (by omega) (by omega)
       have b4 : Bg 1 (A - B) := Bg.i64 (by omega) (by omega)
       have b5 : Bg 1 (v.b.x - v.a.x) := Bg.i64 (by omega) (by omega)
       have b6 : Bg 1 (v.b.y - v.a.y) := Bg.i64 (by omega) (by omega)
       refine .skip ?_
       refine hK56 _ ?_
       refine .sq fun K59 hK59 => ?_
       refine .region ?_
       refine .kf 3 (whole_fc (A - B) (by omega) (by omega)) hb89 ?_
       refine .e ?_
       refine hK59 _ ?_
       refine .sq fun K60 hK60 => ?_
       refine .d 19 ?_
       refine .k 3 (fun fs61 hfs61 => ?_)
       refine .f (whole_fc v.a.x (by omega) (by omega)) hb89 ?_
       refine .k 1 (fun fs62 hfs62 => ?_)
       refine .f (by_fc b1 b4 (by omega) (by omega)) hb92 ?_
       refine .k 1 (fun fs63 hfs63 => ?_)
       refine .f (whole_fc A (by omega) (by omega)) hb89 ?_
       refine .k 7 (fun fs64 hfs64 => ?_)
       refine .f (whole_fc (v.b.x - v.a.x) (by omega) (by omega)) hb89 ?_
       refine .f (by_fc b3 b5 (by omega) (by omega)) hb92 ?_
       refine .f (plus_fc (b1.mul b4) (b3.mul b5) (by omega) (by omega)) hb101 ?_
       refine .k 1 (fun fs65 hfs65 => ?_)
       refine .r 19 (by simp only[ln, hfs61, hfs62, hfs63, hfs64, hfs65];omega) ?_
       refine hK60 _ ?_
       refine .sq fun K66 hK66 => ?_
       refine .d 19 ?_
       refine .k 3 (fun fs67 hfs67 => ?_)
       refine .f (whole_fc v.a.y (by omega) (by omega)) hb89 ?_
       refine .k 1 (fun fs68 hfs68 => ?_)
       refine .f (by_fc b2 b4 (by omega) (by omega)) hb92 ?_
       refine .k 1 (fun fs69 hfs69 => ?_)
       refine .f (whole_fc A (by omega) (by omega)) hb89 ?_
       refine .k 7 (fun fs70 hfs70 => ?_)
       refine .f (whole_fc (v.b.y - v.a.y) (by omega) (by omega)) hb89 ?_
       refine .f (by_fc b3 b6 (by omega) (by omega)) hb92 ?_
       refine .f (plus_fc (b2.mul b4) (b3.mul b6) (by omega) (by omega)) hb101 ?_
       refine .k 1 (fun fs71 hfs71 => ?_)
       refine .r 19 (by simp only[ln, hfs67, hfs68, hfs69, hfs70, hfs71];omega) ?_
       refine hK66 _ ?_
       refine .sq fun K72 hK72 => ?_
       refine .region ?_
       refine .kf 4 (spotPoint_fc (j := 3) (v.a.x * (A - B) + A * (v.b.x - v.a.x)) (v.a.y * (A - B) + A * (v.b.y - v.a.y)) (A - B) (((b1.mul b4).add (b3.mul b5)).le (by omega)) (((b2.mul b4).add (b3.mul b6)).le (by omega)) (b4.le (by omega)) (by omega)) hb93 ?_
       refine .e ?_
       refine hK72 _ ?_
       refine .sq fun K73 hK73 => ?_
       refine .old fun hold => ?_
       refine .d 2 ?_
       refine .k 1 (fun fs74 hfs74 => ?_)
       refine DP.runF1q (by simp (disch := first|omega|(simp only[ln];omega)) [runDf.eq_def, runF1, runF2, stepF.eq_def, updo.eq_def, hupo.eq_def, opSto1.eq_def]; rfl) fun fq75 hfq75 => ?_
       simp [qids, asksB, Op.operands, topId] at hfq75
       simp only [updo]
       refine DQ.asg1 _ rfl rfl ?_
       simp only [updo]
       refine DQ.sto1 (m := 2) [1] _ (by simp (disch := first|omega|(simp only[ln];omega)) [runDf.eq_def, runF1, runF2, stepF.eq_def, updo.eq_def, hupo.eq_def, opSto1.eq_def]; rfl) rfl (by simp only[ln, hfs74];omega) (by kernel_rfl) (by intro k f hk hex; simp only [List.mem_cons, List.not_mem_nil, or_false] at hex; rcases hex with rfl <;> (simp [List.getElem?_append, hfs74] at hk; subst hk; refine ⟨?_, by first | omega | (simp; done) | (simp; omega)⟩; simp [qids, asksB, Op.operands, Call.operands, topId, numS, numI, Wd, hfq75]; try omega)) ?_
       try simp only []
       refine DQ.sto1 (m := 2) [] _ (by simp (disch := first|omega|(simp only[ln];omega)) [runDf.eq_def, runF1, runF2, stepF.eq_def, updo.eq_def, hupo.eq_def, opSto1.eq_def]; rfl) rfl (by simp only[ln, hfs74];omega) (by kernel_rfl) (by intro k f hk hex; simp only [List.not_mem_nil] at hex) ?_
       try simp only []
       refine hK73 _ ?_
       refine .ret ?_
       exact hK _ _ _ _ trivial ((Fin.m).cast (by rw [hm', if_neg hw, eX, eY, eW]; try rfl))
     ·refine .region ?_
      refine .kf 1 (signI_fc A) hb188 ?_ (by simp (disch := first|omega|(simp only[ln];omega)) [List.take_succ_cons, List.take_zero, q3]; rfl) (ha := by simp (disch := first|omega|(simp only[ln];omega)) [idf_Wd', q3])
      refine .kf 1 (signI_fc B) hb188 ?_ (by simp (disch := first|omega|(simp only[ln];omega)) [List.take_succ_cons, List.take_zero, q3]; rfl) (ha := by simp (disch := first|omega|(simp only[ln];omega)) [idf_Wd', q3])
      refine .e ?_ (by simp (disch := first|omega|(simp only[ln];omega)) [q3]; rfl)
      refine hK57 _ ?_
      refine .c (fun h159 => ?_) (fun h159 => ?_)
      ·try simp only[dc]at h159
       have hw : noWay u v = true := by rw [hnw, q3]; rfl
       refine .sq fun K76 hK76 => ?_
       refine .region ?_
       refine .k 1 ?_
       refine AOPS.fcall (none_fc) rfl rfl (by simp; rfl) hbNone (by simp (disch := first|omega|(simp only[ln];omega)) [idf_Wd']) (by simp (disch := first|omega|(simp only[ln];omega))) (by simp) ?_
       simp only [puts_some, updo]
       refine .e ?_
       refine hK76 _ ?_
       refine .ret ?_
       exact hK _ _ _ _ trivial ((Fin.m).cast (by rw [hm', if_pos hw]; try rfl))
      ·simp at h159
 ·refine .r ?_ (by simp (disch := first|omega|(simp only[ln];omega)) [mx_fold, mn_fold, q1]; rfl)
  refine hK4 _ ?_
  refine .c (fun h67 => ?_) (fun h67 => ?_)
  ·try simp only[dc]at h67
   have hm := hmt (by rw [hap, q1]; rfl)
   refine .sq fun K77 hK77 => ?_
   refine .region ?_
   refine .k 1 ?_
   refine AOPS.fcall (none_fc) rfl rfl (by simp; rfl) hbNone (by simp (disch := first|omega|(simp only[ln];omega)) [idf_Wd']) (by simp (disch := first|omega|(simp only[ln];omega))) (by simp) ?_
   simp only [puts_some, updo]
   refine .e ?_
   refine hK77 _ ?_
   refine .ret ?_
   exact hK _ _ _ _ trivial ((Fin.m).cast (by rw [hm]; try rfl))
  ·simp at h67
end
section
attribute [local simp] idf_numI cells_numI numI_fold Sp.av Sp.cells Sg.av Sg.cells
set_option maxHeartbeats 2000000 in
theorem meetF_fc (u v : Sg) : FC Try.prog 70 [u.av, v.av] (.tup [.int .i64 (mtF meetI u v).1, .agg [.int .u64 ((mtF meetI u v).2.1).x.a, .int .u64 ((mtF meetI u v).2.1).x.b, .int .u64 ((mtF meetI u v).2.1).x.c, .int .u64 ((mtF meetI u v).2.1).x.d, .int .u64 ((mtF meetI u v).2.1).y.a, .int .u64 ((mtF meetI u v).2.1).y.b, .int .u64 ((mtF meetI u v).2.1).y.c, .int .u64 ((mtF meetI u v).2.1).y.d, .int .u64 ((mtF meetI u v).2.1).w.a, .int .u64 ((mtF meetI u v).2.1).w.b, .int .u64 ((mtF meetI u v).2.1).w.c, .int .u64 ((mtF meetI u v).2.1).w.d], .agg [.int .u64 ((mtF meetI u v).2.2).x.a, .int .u64 ((mtF meetI u v).2.2).x.b, .int .u64 ((mtF meetI u v).2.2).x.c, .int .u64 ((mtF meetI u v).2.2).x.d, .int .u64 ((mtF meetI u v).2.2).y.a, .int .u64 ((mtF meetI u v).2.2).y.b, .int .u64 ((mtF meetI u v).2.2).y.c, .int .u64 ((mtF meetI u v).2.2).y.d, .int .u64 ((mtF meetI u v).2.2).w.a, .int .u64 ((mtF meetI u v).2.2).w.b, .int .u64 ((mtF meetI u v).2.2).w.c, .int .u64 ((mtF meetI u v).2.2).w.d]]) := by
 refine .b Try.func70 23 (fun nx K hK => ?_) (hi := by simp [idfL, idf, Sp.av, Sp.cells, Sg.av, Sg.cells])
 refine .q ?_
 refine .sq fun K2 hK2 => ?_
 refine .sq fun K3 hK3 => ?_
 cases hga : u.good
 ·refine .region ?_
  refine .kf 1 (segOkI_fc u) hb48 ?_ (by simp (disch := first|omega|(simp only[ln];omega)) [List.take_succ_cons, List.take_zero, hga]; rfl) (ha := by simp (disch := first|omega|(simp only[ln];omega)) [idf_Wd', hga])
  refine .e ?_ (by simp (disch := first|omega|(simp only[ln];omega)) [hga]; rfl)
  refine hK3 _ ?_
  refine .c (fun h14 => ?_) (fun h14 => ?_)
  ·try simp only[dc]at h14
   refine .q ?_
   refine .ret ?_
   exact hK _ _ _ _ trivial ((Fin.m).cast (by unfold mtF; rw [hga]; rfl))
  ·simp at h14
 ·refine .region ?_
  refine .kf 1 (segOkI_fc u) hb48 ?_ (by simp (disch := first|omega|(simp only[ln];omega)) [List.take_succ_cons, List.take_zero, hga]; rfl) (ha := by simp (disch := first|omega|(simp only[ln];omega)) [idf_Wd', hga])
  refine .kf 3 (segOkI_fc v) hb48 ?_ (by simp (disch := first|omega|(simp only[ln];omega)) [List.take_succ_cons, List.take_zero, hga]; rfl) (ha := by simp (disch := first|omega|(simp only[ln];omega)) [idf_Wd', hga])
  refine .e ?_ (by simp (disch := first|omega|(simp only[ln];omega)) [hga]; rfl)
  refine hK3 _ ?_
  refine .c (t := !v.good) (fun h14 => ?_) (fun h14 => ?_)
  ·try simp only[dc]at h14
   have hgb : v.good = false := by simpa using h14
   refine .q ?_
   refine .ret ?_
   exact hK _ _ _ _ trivial ((Fin.m).cast (by unfold mtF; rw [hga, hgb]; rfl))
  ·try simp only[dc]at h14
   have hgb : v.good = true := by simpa using h14
   refine .skip ?_
   refine hK2 _ ?_
   refine .sq fun K6 hK6 => ?_
   refine .region ?_
   refine .kf 2 (meetI_fc u v hga hgb) hb98 ?_
   refine .e ?_
   refine hK6 _ ?_
   refine .ret ?_
   exact hK _ _ _ _ trivial ((Fin.m).cast (by unfold mtF; rw [hga, hgb]; rfl))
end

end Go.Proofs.Ytmaebeknmiomnaa

/- Walks: where segments meet, by the reference; FnExactMeet. -/
namespace Go.Proofs.Ytmaebeknmiomnaa
open Go Go.RowKit
set_option linter.unusedSimpArgs false
set_option linter.unusedVariables false
set_option maxRecDepth 100000
attribute [local simp] szT2 byT2 agT2 unT2 zoT2 szT4 byT4 agT4 unT4 zoT4 szT67 byT67 agT67 flT67 fdT67_0 fdT67_1 zoT67 szT69 byT69 agT69 flT69 fdT69_0 fdT69_1 zoT69 szT111 byT111 agT111 elT111 unT111 zoT111 szT113 byT113 agT113 flT113 fdT113_0 fdT113_1 zoT113 szT115 byT115 agT115 flT115 fdT115_0 fdT115_1 fdT115_2 zoT115

def z3 : AV := .agg [.bool false, .nsl, .bool false, .nsl, .bool false, .nsl]
def nX (u v : Sg) : Int := nrm (denS u v) (wayX2 u v) / gcd3 (wayX2 u v) (wayY2 u v) (denS u v)
def nY (u v : Sg) : Int := nrm (denS u v) (wayY2 u v) / gcd3 (wayX2 u v) (wayY2 u v) (denS u v)
def nW (u v : Sg) : Int := nrm (denS u v) (denS u v) / gcd3 (wayX2 u v) (wayY2 u v) (denS u v)
def l4V (u v : Sg) : AV := if crs u.a u.b v.a = 0 ∧ crs u.a u.b v.b = 0 then (if lsS (highS u v) (lowS u v) = true then .tup [.int .i64 0, z3, z3] else if lowS u v = highS u v then .tup [.int .i64 1, l3A (lowS u v).x (lowS u v).y 1, z3] else .tup [.int .i64 2, l3A (lowS u v).x (lowS u v).y 1, l3A (highS u v).x (highS u v).y 1])
  else if noWay u v = true then .tup [.int .i64 0, z3, z3] else .tup [.int .i64 1, l3A (nX u v) (nY u v) (nW u v), z3]
theorem idf_l4V (u v : Sg) : idf (l4V u v) := by
  unfold l4V; repeat' split
  all_goals simp [idf, idfL, z3, l3A, l3C, idf_Wd']
theorem sg0 {z : Int} (h : z = 0) : (sg3 z == 0) = true := by simp [sg3_zero, h]
theorem sg1 {z : Int} (h : ¬ z = 0) : (sg3 z == 0) = false := by simp [sg3_zero, h]
theorem den_ne {u v : Sg} (gu : u.good = true) (gv : v.good = true) (h0 : ¬ (crs u.a u.b v.a = 0 ∧ crs u.a u.b v.b = 0)) (h : ¬ noWay u v = true) : denS u v ≠ 0 := by
  have := (way_apart (good_ls gu) (good_ls gv) h0 (by simpa using h)).1
  rw [den_w]; omega
theorem low_good {u v : Sg} (gu : u.good = true) (gv : v.good = true) : (lowS u v).good = true := by unfold lowS; split; exact good_a gv; exact good_a gu
theorem high_good {u v : Sg} (gu : u.good = true) (gv : v.good = true) : (highS u v).good = true := by unfold highS; split; exact good_b gv; exact good_b gu

theorem l1In_fc (n a b : Int) : FC Try.prog 199 [.int .i64 n, .int .i64 a, .int .i64 b] (.bool (decide (a ≤ n) && decide (n ≤ b))) := by
 refine .b Try.func199 15 (fun nx K hK => ?_)
 refine .q ?_
 refine .sq fun K2 hK2 => ?_
 cases h : decide (a ≤ n)
 ·refine .r ?_ (by simp (disch := first|omega|(simp only[ln];omega)) [h]; rfl)
  refine hK2 _ ?_
  refine .ret ?_
  exact hK _ _ _ _ trivial ((Fin.m).cast (by rw [h]; rfl))
 ·refine .r ?_ (by simp (disch := first|omega|(simp only[ln];omega)) [h]; rfl)
  refine hK2 _ ?_
  refine .ret ?_
  exact hK _ _ _ _ trivial ((Fin.m).cast (by rw [h]; rfl))
theorem l1InM_fc (n : Int) : FC Try.prog 199 [.int .i64 n, .int .i64 (-1000000), .int .i64 1000000] (.bool (inM n)) := l1In_fc n (-1000000) 1000000
section
attribute [local simp] Sp.av Sp.cells Sg.av Sg.cells
theorem spotOkS_fc (p : Sp) : FC Try.prog 114 [p.av] (.bool p.good) := by
 refine .b Try.func114 11 (fun nx K hK => ?_) (hi := by simp [idfL, idf, Sp.av, Sp.cells, Sg.av, Sg.cells])
 refine .q ?_
 refine .sq fun K2 hK2 => ?_
 cases hx : inM p.x
 ·refine .region ?_
  refine .kf 2 (l1InM_fc p.x) hb199 ?_ (by simp (disch := first|omega|(simp only[ln];omega)) [List.take_succ_cons, List.take_zero, hx]; rfl) (ha := by simp (disch := first|omega|(simp only[ln];omega)) [idf_Wd', hx])
  refine .e ?_ (by simp (disch := first|omega|(simp only[ln];omega)) [hx]; rfl)
  refine hK2 _ ?_
  refine .ret ?_
  exact hK _ _ _ _ trivial ((Fin.m).cast (by unfold Sp.good; rw [hx]; rfl))
 ·refine .region ?_
  refine .kf 2 (l1InM_fc p.x) hb199 ?_ (by simp (disch := first|omega|(simp only[ln];omega)) [List.take_succ_cons, List.take_zero, hx]; rfl) (ha := by simp (disch := first|omega|(simp only[ln];omega)) [idf_Wd', hx])
  refine .kf 3 (l1InM_fc p.y) hb199 ?_ (by simp (disch := first|omega|(simp only[ln];omega)) [List.take_succ_cons, List.take_zero, hx]; rfl) (ha := by simp (disch := first|omega|(simp only[ln];omega)) [idf_Wd', hx])
  refine .e ?_ (by simp (disch := first|omega|(simp only[ln];omega)) [hx]; rfl)
  refine hK2 _ ?_
  refine .ret ?_
  exact hK _ _ _ _ trivial ((Fin.m).cast (by unfold Sp.good; rw [hx]; rfl))
theorem l4Less_fc (p q : Sp) : FC Try.prog 183 [p.av, q.av] (.bool (lsS p q)) := by
 refine .b Try.func183 24 (fun nx K hK => ?_) (hi := by simp [idfL, idf, Sp.av, Sp.cells, Sg.av, Sg.cells])
 refine .q ?_
 refine .sq fun K2 hK2 => ?_
 by_cases q1 : p.x < q.x
 ·have hl : lsS p q = true := by simp [lsS, q1]
  have c1 : decide (p.x < q.x) = true := by simp [q1]
  refine .r ?_ (by simp (disch := first|omega|(simp only[ln];omega)) [c1]; rfl)
  refine hK2 _ ?_
  refine .ret ?_
  exact hK _ _ _ _ trivial ((Fin.m).cast (by rw [hl]; try rfl))
 ·have c1 : decide (p.x < q.x) = false := by simp; omega
  by_cases q2 : p.x = q.x
  ·have c2 : (p.x == q.x) = true := by simp [q2]
   have hl : lsS p q = decide (p.y < q.y) := by simp [lsS, q2]
   refine .r ?_ (by simp (disch := first|omega|(simp only[ln];omega)) [c1, c2]; rfl)
   refine hK2 _ ?_
   refine .ret ?_
   exact hK _ _ _ _ trivial ((Fin.m).cast (by rw [hl]))
  ·have c2 : (p.x == q.x) = false := by simp [q2]
   have hl : lsS p q = false := by simp [lsS, q2]; omega
   refine .r ?_ (by simp (disch := first|omega|(simp only[ln];omega)) [c1, c2]; rfl)
   refine hK2 _ ?_
   refine .ret ?_
   exact hK _ _ _ _ trivial ((Fin.m).cast (by rw [hl]; try rfl))
theorem segOkS_fc (s : Sg) : FC Try.prog 122 [s.av] (.bool s.good) := by
 refine .b Try.func122 18 (fun nx K hK => ?_) (hi := by simp [idfL, idf, Sp.av, Sp.cells, Sg.av, Sg.cells])
 refine .q ?_
 refine .sq fun K2 hK2 => ?_
 cases ha : s.a.good
 ·refine .region ?_
  refine .kf 2 (spotOkS_fc s.a) hb114 ?_ (by simp (disch := first|omega|(simp only[ln];omega)) [List.take_succ_cons, List.take_zero, ha]; rfl) (ha := by simp (disch := first|omega|(simp only[ln];omega)) [idf_Wd', ha])
  refine .e ?_ (by simp (disch := first|omega|(simp only[ln];omega)) [ha]; rfl)
  refine hK2 _ ?_
  refine .ret ?_
  exact hK _ _ _ _ trivial ((Fin.m).cast (by unfold Sg.good; rw [ha]; rfl))
 ·cases hb : s.b.good
  ·refine .region ?_
   refine .kf 2 (spotOkS_fc s.a) hb114 ?_ (by simp (disch := first|omega|(simp only[ln];omega)) [List.take_succ_cons, List.take_zero, ha, hb]; rfl) (ha := by simp (disch := first|omega|(simp only[ln];omega)) [idf_Wd', ha, hb])
   refine .kf 3 (spotOkS_fc s.b) hb114 ?_ (by simp (disch := first|omega|(simp only[ln];omega)) [List.take_succ_cons, List.take_zero, ha, hb]; rfl) (ha := by simp (disch := first|omega|(simp only[ln];omega)) [idf_Wd', ha, hb])
   refine .e ?_ (by simp (disch := first|omega|(simp only[ln];omega)) [ha, hb]; rfl)
   refine hK2 _ ?_
   refine .ret ?_
   exact hK _ _ _ _ trivial ((Fin.m).cast (by unfold Sg.good; rw [ha, hb]; rfl))
  ·refine .region ?_
   refine .kf 2 (spotOkS_fc s.a) hb114 ?_ (by simp (disch := first|omega|(simp only[ln];omega)) [List.take_succ_cons, List.take_zero, ha, hb, lsS_dec]; rfl) (ha := by simp (disch := first|omega|(simp only[ln];omega)) [idf_Wd', ha, hb, lsS_dec])
   refine .kf 3 (spotOkS_fc s.b) hb114 ?_ (by simp (disch := first|omega|(simp only[ln];omega)) [List.take_succ_cons, List.take_zero, ha, hb, lsS_dec]; rfl) (ha := by simp (disch := first|omega|(simp only[ln];omega)) [idf_Wd', ha, hb, lsS_dec])
   refine .kf 6 (l4Less_fc s.a s.b) hb183 ?_ (by simp (disch := first|omega|(simp only[ln];omega)) [List.take_succ_cons, List.take_zero, ha, hb, lsS_dec]; rfl) (ha := by simp (disch := first|omega|(simp only[ln];omega)) [idf_Wd', ha, hb, lsS_dec])
   refine .e ?_ (by simp (disch := first|omega|(simp only[ln];omega)) [ha, hb, lsS_dec]; rfl)
   refine hK2 _ ?_
   refine .ret ?_
   exact hK _ _ _ _ trivial ((Fin.m).cast (by unfold Sg.good; rw [ha, hb]; rfl))
set_option maxHeartbeats 1000000 in
theorem l4Turn_fc (a b c : Sp) (ha : a.good = true) (hb : b.good = true) (hc : c.good = true) : FC Try.prog 182 [a.av, b.av, c.av] (.int .i64 (sg3 (crs a b c))) := by
 have pa := Sp.b ha
 have pb := Sp.b hb
 have pc := Sp.b hc
 have m1 := mul_b (u := b.x - a.x) (v := c.y - a.y) (m := 2000000) (n := 2000000) (by omega) (by omega) (by omega) (by omega) (by omega)
 have m2 := mul_b (u := b.y - a.y) (v := c.x - a.x) (m := 2000000) (n := 2000000) (by omega) (by omega) (by omega) (by omega) (by omega)
 have e : (b.x - a.x) * (c.y - a.y) - (b.y - a.y) * (c.x - a.x) = crs a b c := rfl
 refine .b Try.func182 35 (fun nx K hK => ?_) (hi := by simp [idfL, idf, Sp.av, Sp.cells, Sg.av, Sg.cells])
 refine .q ?_
 refine .q ?_
 refine .sq fun K3 hK3 => ?_
 refine .q ?_ (by simp (disch := first|omega|(simp only[ln];omega)) [e]; rfl)
 refine .c (t := decide (crs a b c < 0)) (fun h32 => ?_) (fun h32 => ?_)
 ·try simp only[dc]at h32
  refine .q ?_
  refine .ret ?_
  exact hK _ _ _ _ trivial ((Fin.m).cast (by unfold sg3; rw [if_pos h32]))
 ·try simp only[dc]at h32
  refine .skip ?_
  refine hK3 _ ?_
  refine .sq fun K6 hK6 => ?_
  refine .q ?_ (by simp (disch := first|omega|(simp only[ln];omega)) [e]; rfl)
  refine .c (t := decide (0 < crs a b c)) (fun h34 => ?_) (fun h34 => ?_)
  ·try simp only[dc]at h34
   refine .q ?_
   refine .ret ?_
   exact hK _ _ _ _ trivial ((Fin.m).cast (by unfold sg3; rw [if_neg h32, if_pos h34]))
  ·try simp only[dc]at h34
   refine .skip ?_
   refine hK6 _ ?_
   refine .q ?_
   refine .ret ?_
   exact hK _ _ _ _ trivial ((Fin.m).cast (by unfold sg3; rw [if_neg h32, if_neg h34]))
end
section
attribute [local simp] idf_numS cells_numS numS_fold Sp.av Sp.cells Sg.av Sg.cells l3A l3C
set_option maxHeartbeats 8000000 in
theorem l4Meet_fc (u v : Sg) (gu : u.good = true) (gv : v.good = true) : FC Try.prog 95 [u.av, v.av] (l4V u v) := by
 have ua := good_a gu
 have ub := good_b gu
 have va := good_a gv
 have vb := good_b gv
 have pua := Sp.b ua
 have pub := Sp.b ub
 have pva := Sp.b va
 have pvb := Sp.b vb
 have cA := l4Turn_fc u.a u.b v.a ua ub va
 have cB := l4Turn_fc u.a u.b v.b ua ub vb
 have cC := l4Turn_fc v.a v.b u.a va vb ua
 have cD := l4Turn_fc v.a v.b u.b va vb ub
 have hnw : noWay u v = (decide (0 < sg3 (crs u.a u.b v.a) * sg3 (crs u.a u.b v.b)) || decide (0 < sg3 (crs v.a v.b u.a) * sg3 (crs v.a v.b u.b))) := rfl
 have sAB := mul_sg (crs u.a u.b v.a) (crs u.a u.b v.b)
 have sCD := mul_sg (crs v.a v.b u.a) (crs v.a v.b u.b)
 obtain ⟨A, hA⟩ : ∃ A, crs u.a u.b v.a = A := ⟨_, rfl⟩
 obtain ⟨B, hB⟩ : ∃ B, crs u.a u.b v.b = B := ⟨_, rfl⟩
 rw [hA] at cA sAB hnw
 rw [hB] at cB sAB hnw
 generalize crs v.a v.b u.a = C at *
 generalize crs v.a v.b u.b = D at *
 refine .b Try.func95 181 (fun nx K hK => ?_) (hi := by simp [idfL, idf, Sp.av, Sp.cells, Sg.av, Sg.cells]) (hr := idf_l4V u v)
 refine .q ?_
 refine .sq fun K2 hK2 => ?_
 refine .region ?_
 refine .kf 6 cA hb182 ?_
 refine .e ?_
 refine hK2 _ ?_
 refine .sq fun K3 hK3 => ?_
 refine .region ?_
 refine .kf 6 cB hb182 ?_
 refine .e ?_
 refine hK3 _ ?_
 refine .sq fun K4 hK4 => ?_
 refine .region ?_
 refine .kf 6 cC hb182 ?_
 refine .e ?_
 refine hK4 _ ?_
 refine .sq fun K5 hK5 => ?_
 refine .region ?_
 refine .kf 6 cD hb182 ?_
 refine .e ?_
 refine hK5 _ ?_
 refine .sq fun K6 hK6 => ?_
 refine .sq fun K7 hK7 => ?_
 by_cases hA0 : A = 0
 ·have c1 := sg0 hA0
  by_cases hB0 : B = 0
  ·have c2 := sg0 hB0
   have h0 : A = 0 ∧ B = 0 := ⟨hA0, hB0⟩
   refine .r ?_ (by simp (disch := first|omega|(simp only[ln];omega)) [c1, c2]; rfl)
   refine hK7 _ ?_
   refine .c (fun h54 => ?_) (fun h54 => ?_)
   ·try simp only[dc]at h54
    refine .q ?_
    refine .sq fun K9 hK9 => ?_
    have J9 : ∀ s : St, (∃ lo : Sp, lo = lowS u v ∧ s.env 2 = .ptr nx 0 0 ∧ s.env 3 = .ptr (nx + 1) 0 0 ∧ s.env 5 = .ptr (nx + 1 + 1) 0 0 ∧ s.env 6 = .ptr (nx + 1 + 1 + 1) 0 0 ∧ s.env 11 = .ptr (nx + 1 + 1 + 1 + 1) 0 0 ∧ s.heap nx = some (4, [[.int .i64 u.a.x, .int .i64 u.a.y, .int .i64 u.b.x, .int .i64 u.b.y]]) ∧ s.heap (nx + 1) = some (4, [[.int .i64 v.a.x, .int .i64 v.a.y, .int .i64 v.b.x, .int .i64 v.b.y]]) ∧ s.heap (nx + 1 + 1) = some (6, [[.bool false, .nsl, .bool false, .nsl, .bool false, .nsl]]) ∧ s.heap (nx + 1 + 1 + 1) = some (6, [[.bool false, .nsl, .bool false, .nsl, .bool false, .nsl]]) ∧ s.heap (nx + 1 + 1 + 1 + 1) = some (2, [[.int .i64 lo.x, .int .i64 lo.y]]) ∧ (nx + 1 + 1 + 1 + 1) < s.nx ∧ s.nt = 181) → K9 s := by
     rintro ⟨e, H, mm, nt⟩ ⟨lo, hlo, g2, g3, g5, g6, g11, hU, hV, hP, hQ, hL, hm, rfl⟩
     simp only [] at g2 g3 g5 g6 g11 hU hV hP hQ hL hm
     refine hK9 _ ?_
     refine .q ?_ (by simp (disch := first|omega|(simp only[ln];omega)) [g2, g3, g5, g6, g11, hU, hV, hP, hQ, hL]; rfl)
     refine .sq fun K11 hK11 => ?_
     have J11 : ∀ s : St, (∃ (lo hi : Sp) (ib : Nat), lo = lowS u v ∧ hi = highS u v ∧ s.env 2 = .ptr nx 0 0 ∧ s.env 3 = .ptr (nx + 1) 0 0 ∧ s.env 5 = .ptr (nx + 1 + 1) 0 0 ∧ s.env 6 = .ptr (nx + 1 + 1 + 1) 0 0 ∧ s.env 11 = .ptr (nx + 1 + 1 + 1 + 1) 0 0 ∧ s.heap nx = some (4, [[.int .i64 u.a.x, .int .i64 u.a.y, .int .i64 u.b.x, .int .i64 u.b.y]]) ∧ s.heap (nx + 1) = some (4, [[.int .i64 v.a.x, .int .i64 v.a.y, .int .i64 v.b.x, .int .i64 v.b.y]]) ∧ s.heap (nx + 1 + 1) = some (6, [[.bool false, .nsl, .bool false, .nsl, .bool false, .nsl]]) ∧ s.heap (nx + 1 + 1 + 1) = some (6, [[.bool false, .nsl, .bool false, .nsl, .bool false, .nsl]]) ∧ s.heap (nx + 1 + 1 + 1 + 1) = some (2, [[.int .i64 lo.x, .int .i64 lo.y]]) ∧ s.env 12 = .ptr ib 0 0 ∧ s.heap ib = some (2, [[.int .i64 hi.x, .int .i64 hi.y]]) ∧ (nx + 1 + 1 + 1 + 1) < ib ∧ ib < s.nx ∧ s.nt = 181) → K11 s := by
      clear g2 g3 g5 g6 g11 hU hV hP hQ hL hm hlo lo
      rintro ⟨e, H, mm, nt⟩ ⟨lo, hi, ib, hlo, hhi, g2, g3, g5, g6, g11, hU, hV, hP, hQ, hL, g12, hI, hib, hm, rfl⟩
      simp only [] at g2 g3 g5 g6 g11 g12 hU hV hP hQ hL hI hm
      have hli : l4V u v = if lsS hi lo = true then .tup [.int .i64 0, z3, z3] else if lo = hi then .tup [.int .i64 1, l3A lo.x lo.y 1, z3] else .tup [.int .i64 2, l3A lo.x lo.y 1, l3A hi.x hi.y 1] := by unfold l4V; rw [hA, hB, if_pos h0, hlo, hhi]
      have pl := Sp.b (by rw [hlo]; exact low_good gu gv : lo.good = true)
      have ph := Sp.b (by rw [hhi]; exact high_good gu gv : hi.good = true)
      clear hlo hhi
      refine hK11 _ ?_
      refine .sq fun K12 hK12 => ?_
      refine .sq fun K13 hK13 => ?_
      refine .region ?_
      refine .kf 2 (l4Less_fc hi lo) hb183 ?_ (by simp (disch := first|omega|(simp only[ln];omega)) [List.take_succ_cons, List.take_zero, g2, g3, g5, g6, g11, hU, hV, hP, hQ, hL, g12, hI]; rfl) (ha := by simp (disch := first|omega|(simp only[ln];omega)) [idf_Wd', g2, g3, g5, g6, g11, hU, hV, hP, hQ, hL, g12, hI])
      refine .nil ?_
      refine hK13 _ ?_
      refine .c (t := lsS hi lo) (fun h73 => ?_) (fun h73 => ?_)
      ·try simp only[dc]at h73
       refine .q ?_ (by simp (disch := first|omega|(simp only[ln];omega)) [g2, g3, g5, g6, g11, hU, hV, hP, hQ, hL]; rfl)
       refine .ret ?_
       exact hK _ _ _ _ trivial ((Fin.mk (by simp (disch := omega) [aRes, aResL, aRes1, g5, g6]; rfl)).cast (by rw [hli, if_pos h73]; rfl))
      ·try simp only[dc]at h73
       refine .skip ?_
       refine hK12 _ ?_
       refine .sq fun K15 hK15 => ?_
       refine .q ?_ (by simp (disch := first|omega|(simp only[ln];omega)) [g2, g3, g5, g6, g11, hU, hV, hP, hQ, hL, g12, hI, eqW2]; rfl)
       refine .c (t := decide (lo = hi)) (fun h78 => ?_) (fun h78 => ?_)
       ·try simp only[dc]at h78
        refine .sq fun K17 hK17 => ?_
        refine .region ?_
        refine .kf 1 (l3Spot_fc lo.x lo.y (by omega) (by omega) (by omega) (by omega)) hb123 ?_ (by simp (disch := first|omega|(simp only[ln];omega)) [List.take_succ_cons, List.take_zero, g2, g3, g5, g6, g11, hU, hV, hP, hQ, hL]; rfl) (ha := by simp (disch := first|omega|(simp only[ln];omega)) [idf_Wd', g2, g3, g5, g6, g11, hU, hV, hP, hQ, hL])
        refine .e ?_ (by simp (disch := first|omega|(simp only[ln];omega)) [g2, g3, g5, g6, g11, hU, hV, hP, hQ, hL]; rfl)
        refine hK17 _ ?_
        refine .ret ?_
        exact hK _ _ _ _ trivial ((Fin.mk (by simp (disch := omega) [aRes, aResL, aRes1, g5, g6]; rfl)).cast (by rw [hli, if_neg (by rw [h73]; simp), if_pos h78]; rfl))
       ·try simp only[dc]at h78
        refine .skip ?_
        refine hK15 _ ?_
        refine .sq fun K18 hK18 => ?_
        refine .old fun hold => ?_
        refine .d 4 ?_
        refine .k 1 (fun fs19 hfs19 => ?_) (by simp (disch := first|omega|(simp only[ln];omega)) [runDf.eq_def, runF1, runF2, stepF.eq_def, updo.eq_def, hupo.eq_def, opSto1.eq_def, List.take_succ_cons, List.take_zero, g2, g3, g5, g6, g11, hU, hV, hP, hQ, hL, g12, hI]; rfl)
        refine .f (l3Spot_fc lo.x lo.y (by omega) (by omega) (by omega) (by omega)) hb123 ?_ (ha := by simp (disch := first|omega|(simp only[ln];omega)) [idf_Wd', g2, g3, g5, g6, g11, hU, hV, hP, hQ, hL, g12, hI])
        refine DP.runF1q (by simp (disch := first|omega|(simp only[ln];omega)) [runDf.eq_def, runF1, runF2, stepF.eq_def, updo.eq_def, hupo.eq_def, opSto1.eq_def, g2, g3, g5, g6, g11, hU, hV, hP, hQ, hL, g12, hI]; rfl) fun fq20 hfq20 => ?_
        simp [qids, asksB, Op.operands, topId] at hfq20
        simp only [updo]
        refine .f (l3Spot_fc hi.x hi.y (by omega) (by omega) (by omega) (by omega)) hb123 ?_ (ha := by simp (disch := first|omega|(simp only[ln];omega)) [idf_Wd', g2, g3, g5, g6, g11, hU, hV, hP, hQ, hL, g12, hI])
        refine DQ.asg1 _ rfl rfl ?_
        simp only [updo]
        refine DQ.sto1 (m := 4) [2, 3] _ (by simp (disch := first|omega|(simp only[ln];omega)) [runDf.eq_def, runF1, runF2, stepF.eq_def, updo.eq_def, hupo.eq_def, opSto1.eq_def, g2, g3, g5, g6, g11, hU, hV, hP, hQ, hL, g12, hI]; rfl) rfl (by simp only[ln, hfs19];omega) (by kernel_rfl) (by intro k f hk hex; simp only [List.mem_cons, List.not_mem_nil, or_false] at hex; rcases hex with rfl | rfl <;> (simp [List.getElem?_append, hfs19] at hk; subst hk; refine ⟨?_, by first | omega | (simp; done) | (simp; omega)⟩; simp [qids, asksB, Op.operands, Call.operands, topId, numS, numI, Wd, hfq20, g2, g3, g5, g6, g11, g12]; try omega)) ?_
        try simp only []
        refine DQ.sto1 (m := 4) [] _ (by simp (disch := first|omega|(simp only[ln];omega)) [runDf.eq_def, runF1, runF2, stepF.eq_def, updo.eq_def, hupo.eq_def, opSto1.eq_def, g2, g3, g5, g6, g11, hU, hV, hP, hQ, hL, g12, hI]; rfl) rfl (by simp only[ln, hfs19];omega) (by kernel_rfl) (by intro k f hk hex; simp only [List.not_mem_nil] at hex) ?_
        try simp only []
        refine hK18 _ ?_
        refine .ret ?_
        exact hK _ _ _ _ trivial ((Fin.mk (by simp (disch := omega) [aRes, aResL, aRes1, g5, g6]; rfl)).cast (by rw [hli, if_neg (by rw [h73]; simp), if_neg h78]; rfl))
     refine .sq fun K21 hK21 => ?_
     refine .region ?_
     refine .kf 3 (l4Less_fc v.b u.b) hb183 ?_ (by simp (disch := first|omega|(simp only[ln];omega)) [List.take_succ_cons, List.take_zero, g2, g3, g5, g6, g11, hU, hV, hP, hQ, hL]; rfl) (ha := by simp (disch := first|omega|(simp only[ln];omega)) [idf_Wd', g2, g3, g5, g6, g11, hU, hV, hP, hQ, hL])
     refine .nil ?_
     refine hK21 _ ?_
     refine .c (t := lsS v.b u.b) (fun h68 => ?_) (fun h68 => ?_)
     ·try simp only[dc]at h68
      refine .r ?_ (by simp (disch := first|omega|(simp only[ln];omega)) [g2, g3, g5, g6, g11, hU, hV, hP, hQ, hL]; rfl)
      refine J11 _ ?_
      exact ⟨lo, v.b, mm, hlo, by unfold highS; rw [if_pos h68], by simp [g2, g3, g5, g6, g11], by simp [g2, g3, g5, g6, g11], by simp [g2, g3, g5, g6, g11], by simp [g2, g3, g5, g6, g11], by simp [g2, g3, g5, g6, g11], by simp (disch := omega) [hU, hV, hP, hQ, hL], by simp (disch := omega) [hU, hV, hP, hQ, hL], by simp (disch := omega) [hU, hV, hP, hQ, hL], by simp (disch := omega) [hU, hV, hP, hQ, hL], by simp (disch := omega) [hU, hV, hP, hQ, hL], by simp, by simp (disch := omega), by omega, by first | omega | (simp; done) | (simp; omega), rfl⟩
     ·try simp only[dc]at h68
      refine .skip ?_
      refine J11 _ ?_
      exact ⟨lo, u.b, mm, hlo, by unfold highS; rw [h68]; rfl, by simp [g2, g3, g5, g6, g11], by simp [g2, g3, g5, g6, g11], by simp [g2, g3, g5, g6, g11], by simp [g2, g3, g5, g6, g11], by simp [g2, g3, g5, g6, g11], by simp (disch := omega) [hU, hV, hP, hQ, hL], by simp (disch := omega) [hU, hV, hP, hQ, hL], by simp (disch := omega) [hU, hV, hP, hQ, hL], by simp (disch := omega) [hU, hV, hP, hQ, hL], by simp (disch := omega) [hU, hV, hP, hQ, hL], by simp, by simp (disch := omega), by omega, by first | omega | (simp; done) | (simp; omega), rfl⟩
    refine .sq fun K22 hK22 => ?_
    refine .region ?_
    refine .kf 3 (l4Less_fc u.a v.a) hb183 ?_
    refine .nil ?_
    refine hK22 _ ?_
    refine .c (t := lsS u.a v.a) (fun h60 => ?_) (fun h60 => ?_)
    ·try simp only[dc]at h60
     refine .r ?_
     refine J9 _ ?_
     exact ⟨v.a, by unfold lowS; rw [if_pos h60], by simp, by simp, by simp, by simp, by simp, by simp (disch := omega), by simp (disch := omega), by simp (disch := omega), by simp (disch := omega), by simp (disch := omega), by first | omega | (simp; done) | (simp; omega), rfl⟩
    ·try simp only[dc]at h60
     refine .skip ?_
     refine J9 _ ?_
     exact ⟨u.a, by unfold lowS; rw [h60]; rfl, by simp, by simp, by simp, by simp, by simp, by simp (disch := omega), by simp (disch := omega), by simp (disch := omega), by simp (disch := omega), by simp (disch := omega), by first | omega | (simp; done) | (simp; omega), rfl⟩
   ·simp at h54
  ·have c2 := sg1 hB0
   have h0 : ¬ (A = 0 ∧ B = 0) := fun h => hB0 h.2
   refine .r ?_ (by simp (disch := first|omega|(simp only[ln];omega)) [c1, c2]; rfl)
   refine hK7 _ ?_
   refine .c (fun h54 => ?_) (fun h54 => ?_)
   ·simp at h54
   ·try simp only[dc]at h54
    refine .skip ?_
    refine hK6 _ ?_
    refine .sq fun K23 hK23 => ?_
    refine .sq fun K24 hK24 => ?_
    cases q3 : decide (0 < sg3 A * sg3 B)
    ·refine .r ?_ (by simp (disch := first|omega|(simp only[ln];omega)) [q3]; rfl)
     refine hK24 _ ?_
     refine .c (t := decide (0 < sg3 C * sg3 D)) (fun h95 => ?_) (fun h95 => ?_)
     ·try simp only[dc]at h95
      have hw : noWay u v = true := by rw [hnw, q3]; simp [h95]
      refine .q ?_
      refine .ret ?_
      exact hK _ _ _ _ trivial ((Fin.m).cast (by unfold l4V; rw [hA, hB, if_neg h0, if_pos hw]; try rfl))
     ·try simp only[dc]at h95
      have hw : ¬ noWay u v = true := by rw [hnw, q3]; simp; omega
      have m1 := mul_b (u := u.b.x - u.a.x) (v := v.b.y - v.a.y) (m := 2000000) (n := 2000000) (by omega) (by omega) (by omega) (by omega) (by omega)
      have m2 := mul_b (u := u.b.y - u.a.y) (v := v.b.x - v.a.x) (m := 2000000) (n := 2000000) (by omega) (by omega) (by omega) (by omega) (by omega)
      have m3 := mul_b (u := v.a.x - u.a.x) (v := v.b.y - v.a.y) (m := 2000000) (n := 2000000) (by omega) (by omega) (by omega) (by omega) (by omega)
      have m4 := mul_b (u := v.a.y - u.a.y) (v := v.b.x - v.a.x) (m := 2000000) (n := 2000000) (by omega) (by omega) (by omega) (by omega) (by omega)
      have hdn := den_ne gu gv (by rw [hA, hB]; exact h0) hw
      have eD : denS u v = (u.b.x - u.a.x) * (v.b.y - v.a.y) - (u.b.y - u.a.y) * (v.b.x - v.a.x) := rfl
      have eN : numT u v = (v.a.x - u.a.x) * (v.b.y - v.a.y) - (v.a.y - u.a.y) * (v.b.x - v.a.x) := rfl
      have b1 : Bg 1 u.a.x := Bg.i64 (by omega) (by omega)
      have b2 : Bg 1 u.a.y := Bg.i64 (by omega) (by omega)
      have b3 : Bg 1 (denS u v) := Bg.i64 (by rw [eD]; omega) (by rw [eD]; omega)
      have b4 : Bg 1 (numT u v) := Bg.i64 (by rw [eN]; omega) (by rw [eN]; omega)
      have b5 : Bg 1 (u.b.x - u.a.x) := Bg.i64 (by omega) (by omega)
      have b6 : Bg 1 (u.b.y - u.a.y) := Bg.i64 (by omega) (by omega)
      have i1 := l1Int_fc (denS u v) (by rw [eD]; omega) (by rw [eD]; omega)
      have i2 := l1Int_fc (numT u v) (by rw [eN]; omega) (by rw [eN]; omega)
      rw [eD] at i1
      rw [eN] at i2
      have x1 := l1Mul_fc b1 b3 (by omega) (by omega)
      have x2 := l1Mul_fc b5 b4 (by omega) (by omega)
      have x3 := l1Add_fc (b1.mul b3) (b5.mul b4) (by omega) (by omega)
      have y1 := l1Mul_fc b2 b3 (by omega) (by omega)
      have y2 := l1Mul_fc b6 b4 (by omega) (by omega)
      have y3 := l1Add_fc (b2.mul b3) (b6.mul b4) (by omega) (by omega)
      have l3 := l3Make_fc (j := 3) (wayX2 u v) (wayY2 u v) (denS u v) hdn (((b1.mul b3).add (b5.mul b4)).le (by omega)) (((b2.mul b3).add (b6.mul b4)).le (by omega)) (b3.le (by omega)) (by omega) (by omega)
      unfold wayX2 wayY2 at l3
      rw [eD] at x1 x3 y1 y3
      rw [eN] at x2 x3 y2 y3
      simp only [eD, eN] at l3
      have eV : l3A (nX u v) (nY u v) (nW u v) = l3A (nX u v) (nY u v) (nW u v) := rfl
      unfold nX nY nW wayX2 wayY2 at eV
      simp only [eD, eN] at eV
      have hl4 : l4V u v = .tup [.int .i64 1, l3A (nX u v) (nY u v) (nW u v), z3] := by unfold l4V; rw [hA, hB, if_neg h0, if_neg hw]
      unfold nX nY nW wayX2 wayY2 at hl4
      simp only [eD, eN] at hl4
      clear b3 b4 eV
      refine .skip ?_
      refine hK23 _ ?_
      refine .q ?_
      refine .q ?_
      refine .q ?_
      refine .q ?_
      refine .sq fun K30 hK30 => ?_
      refine .region ?_
      refine .kf 7 i1 hb106 ?_
      refine .e ?_
      refine hK30 _ ?_
      refine .sq fun K31 hK31 => ?_
      refine .region ?_
      refine .kf 19 i2 hb106 ?_
      refine .e ?_
      refine hK31 _ ?_
      refine .sq fun K32 hK32 => ?_
      refine .d 12 ?_
      refine .k 3 (fun fs33 hfs33 => ?_)
      refine .f (l1Int_fc u.a.x (by omega) (by omega)) hb106 ?_
      refine .k 1 (fun fs34 hfs34 => ?_)
      refine .f x1 hb105 ?_
      refine .k 1 (fun fs35 hfs35 => ?_)
      refine .f (l1Int_fc (u.b.x - u.a.x) (by omega) (by omega)) hb106 ?_
      refine .k 1 (fun fs36 hfs36 => ?_)
      refine .f x2 hb105 ?_
      refine .f x3 hb104 ?_
      refine .k 1 (fun fs37 hfs37 => ?_)
      refine .r 12 (by simp only[ln, hfs33, hfs34, hfs35, hfs36, hfs37];omega) ?_
      refine hK32 _ ?_
      refine .sq fun K38 hK38 => ?_
      refine .d 12 ?_
      refine .k 3 (fun fs39 hfs39 => ?_)
      refine .f (l1Int_fc u.a.y (by omega) (by omega)) hb106 ?_
      refine .k 1 (fun fs40 hfs40 => ?_)
      refine .f y1 hb105 ?_
      refine .k 1 (fun fs41 hfs41 => ?_)
      refine .f (l1Int_fc (u.b.y - u.a.y) (by omega) (by omega)) hb106 ?_
      refine .k 1 (fun fs42 hfs42 => ?_)
      refine .f y2 hb105 ?_
      refine .f y3 hb104 ?_
      refine .k 1 (fun fs43 hfs43 => ?_)
      refine .r 12 (by simp only[ln, hfs39, hfs40, hfs41, hfs42, hfs43];omega) ?_
      refine hK38 _ ?_
      refine .sq fun K44 hK44 => ?_
      refine .region ?_
      refine .kf 3 l3 hb103 ?_
      refine .e ?_
      refine hK44 _ ?_
      refine .ret ?_
      exact hK _ _ _ _ trivial ((Fin.m).cast (by rw [hl4]; rfl))
    ·refine .r ?_ (by simp (disch := first|omega|(simp only[ln];omega)) [q3]; rfl)
     refine hK24 _ ?_
     refine .c (fun h95 => ?_) (fun h95 => ?_)
     ·try simp only[dc]at h95
      have hw : noWay u v = true := by rw [hnw, q3]; rfl
      refine .q ?_
      refine .ret ?_
      exact hK _ _ _ _ trivial ((Fin.m).cast (by unfold l4V; rw [hA, hB, if_neg h0, if_pos hw]; try rfl))
     ·simp at h95
 ·have c1 := sg1 hA0
  have h0 : ¬ (A = 0 ∧ B = 0) := fun h => hA0 h.1
  refine .r ?_ (by simp (disch := first|omega|(simp only[ln];omega)) [c1]; rfl)
  refine hK7 _ ?_
  refine .c (fun h54 => ?_) (fun h54 => ?_)
  ·simp at h54
  ·try simp only[dc]at h54
   refine .skip ?_
   refine hK6 _ ?_
   refine .sq fun K46 hK46 => ?_
   refine .sq fun K47 hK47 => ?_
   cases q3 : decide (0 < sg3 A * sg3 B)
   ·refine .r ?_ (by simp (disch := first|omega|(simp only[ln];omega)) [q3]; rfl)
    refine hK47 _ ?_
    refine .c (t := decide (0 < sg3 C * sg3 D)) (fun h95 => ?_) (fun h95 => ?_)
    ·try simp only[dc]at h95
     have hw : noWay u v = true := by rw [hnw, q3]; simp [h95]
     refine .q ?_
     refine .ret ?_
     exact hK _ _ _ _ trivial ((Fin.m).cast (by unfold l4V; rw [hA, hB, if_neg h0, if_pos hw]; try rfl))
    ·try simp only[dc]at h95
     have hw : ¬ noWay u v = true := by rw [hnw, q3]; simp; omega
     have m1 := mul_b (u := u.b.x - u.a.x) (v := v.b.y - v.a.y) (m := 2000000) (n := 2000000) (by omega) (by omega) (by omega) (by omega) (by omega)
     have m2 := mul_b (u := u.b.y - u.a.y) (v := v.b.x - v.a.x) (m := 2000000) (n := 2000000) (by omega) (by omega) (by omega) (by omega) (by omega)
     have m3 := mul_b (u := v.a.x - u.a.x) (v := v.b.y - v.a.y) (m := 2000000) (n := 2000000) (by omega) (by omega) (by omega) (by omega) (by omega)
     have m4 := mul_b (u := v.a.y - u.a.y) (v := v.b.x - v.a.x) (m := 2000000) (n := 2000000) (by omega) (by omega) (by omega) (by omega) (by omega)
     have hdn := den_ne gu gv (by rw [hA, hB]; exact h0) hw
     have eD : denS u v = (u.b.x - u.a.x) * (v.b.y - v.a.y) - (u.b.y - u.a.y) * (v.b.x - v.a.x) := rfl
     have eN : numT u v = (v.a.x - u.a.x) * (v.b.y - v.a.y) - (v.a.y - u.a.y) * (v.b.x - v.a.x) := rfl
     have b1 : Bg 1 u.a.x := Bg.i64 (by omega) (by omega)
     have b2 : Bg 1 u.a.y := Bg.i64 (by omega) (by omega)
     have b3 : Bg 1 (denS u v) := Bg.i64 (by rw [eD]; omega) (by rw [eD]; omega)
     have b4 : Bg 1 (numT u v) := Bg.i64 (by rw [eN]; omega) (by rw [eN]; omega)
     have b5 : Bg 1 (u.b.x - u.a.x) := Bg.i64 (by omega) (by omega)
     have b6 : Bg 1 (u.b.y - u.a.y) := Bg.i64 (by omega) (by omega)
     have i1 := l1Int_fc (denS u v) (by rw [eD]; omega) (by rw [eD]; omega)
     have i2 := l1Int_fc (numT u v) (by rw [eN]; omega) (by rw [eN]; omega)
     rw [eD] at i1
     rw [eN] at i2
     have x1 := l1Mul_fc b1 b3 (by omega) (by omega)
     have x2 := l1Mul_fc b5 b4 (by omega) (by omega)
     have x3 := l1Add_fc (b1.mul b3) (b5.mul b4) (by omega) (by omega)
     have y1 := l1Mul_fc b2 b3 (by omega) (by omega)
     have y2 := l1Mul_fc b6 b4 (by omega) (by omega)
     have y3 := l1Add_fc (b2.mul b3) (b6.mul b4) (by omega) (by omega)
     have l3 := l3Make_fc (j := 3) (wayX2 u v) (wayY2 u v) (denS u v) hdn (((b1.mul b3).add (b5.mul b4)).le (by omega)) (((b2.mul b3).add (b6.mul b4)).le (by omega)) (b3.le (by omega)) (by omega) (by omega)
     unfold wayX2 wayY2 at l3
     rw [eD] at x1 x3 y1 y3
     rw [eN] at x2 x3 y2 y3
     simp only [eD, eN] at l3
     have eV : l3A (nX u v) (nY u v) (nW u v) = l3A (nX u v) (nY u v) (nW u v) := rfl
     unfold nX nY nW wayX2 wayY2 at eV
     simp only [eD, eN] at eV
     have hl4 : l4V u v = .tup [.int .i64 1, l3A (nX u v) (nY u v) (nW u v), z3] := by unfold l4V; rw [hA, hB, if_neg h0, if_neg hw]
     unfold nX nY nW wayX2 wayY2 at hl4
     simp only [eD, eN] at hl4
     clear b3 b4 eV
     refine .skip ?_
     refine hK46 _ ?_
     refine .q ?_
     refine .q ?_
     refine .q ?_
     refine .q ?_
     refine .sq fun K53 hK53 => ?_
     refine .region ?_
     refine .kf 7 i1 hb106 ?_
     refine .e ?_
     refine hK53 _ ?_
     refine .sq fun K54 hK54 => ?_
     refine .region ?_
     refine .kf 19 i2 hb106 ?_
     refine .e ?_
     refine hK54 _ ?_
     refine .sq fun K55 hK55 => ?_
     refine .d 12 ?_
     refine .k 3 (fun fs56 hfs56 => ?_)
     refine .f (l1Int_fc u.a.x (by omega) (by omega)) hb106 ?_
     refine .k 1 (fun fs57 hfs57 => ?_)
     refine .f x1 hb105 ?_
     refine .k 1 (fun fs58 hfs58 => ?_)
     refine .f (l1Int_fc (u.b.x - u.a.x) (by omega) (by omega)) hb106 ?_
     refine .k 1 (fun fs59 hfs59 => ?_)
     refine .f x2 hb105 ?_
     refine .f x3 hb104 ?_
     refine .k 1 (fun fs60 hfs60 => ?_)
     refine .r 12 (by simp only[ln, hfs56, hfs57, hfs58, hfs59, hfs60];omega) ?_
     refine hK55 _ ?_
     refine .sq fun K61 hK61 => ?_
     refine .d 12 ?_
     refine .k 3 (fun fs62 hfs62 => ?_)
     refine .f (l1Int_fc u.a.y (by omega) (by omega)) hb106 ?_
     refine .k 1 (fun fs63 hfs63 => ?_)
     refine .f y1 hb105 ?_
     refine .k 1 (fun fs64 hfs64 => ?_)
     refine .f (l1Int_fc (u.b.y - u.a.y) (by omega) (by omega)) hb106 ?_
     refine .k 1 (fun fs65 hfs65 => ?_)
     refine .f y2 hb105 ?_
     refine .f y3 hb104 ?_
     refine .k 1 (fun fs66 hfs66 => ?_)
     refine .r 12 (by simp only[ln, hfs62, hfs63, hfs64, hfs65, hfs66];omega) ?_
     refine hK61 _ ?_
     refine .sq fun K67 hK67 => ?_
     refine .region ?_
     refine .kf 3 l3 hb103 ?_
     refine .e ?_
     refine hK67 _ ?_
     refine .ret ?_
     exact hK _ _ _ _ trivial ((Fin.m).cast (by rw [hl4]; rfl))
   ·refine .r ?_ (by simp (disch := first|omega|(simp only[ln];omega)) [q3]; rfl)
    refine hK47 _ ?_
    refine .c (fun h95 => ?_) (fun h95 => ?_)
    ·try simp only[dc]at h95
     have hw : noWay u v = true := by rw [hnw, q3]; rfl
     refine .q ?_
     refine .ret ?_
     exact hK _ _ _ _ trivial ((Fin.m).cast (by unfold l4V; rw [hA, hB, if_neg h0, if_pos hw]; try rfl))
    ·simp at h95
end

end Go.Proofs.Ytmaebeknmiomnaa

/- Walks: FnExactMeet, walked. -/
namespace Go.Proofs.Ytmaebeknmiomnaa
open Go Go.RowKit
set_option linter.unusedSimpArgs false
set_option linter.unusedVariables false
set_option maxRecDepth 100000
attribute [local simp] szT2 byT2 agT2 unT2 zoT2 szT26 byT26 agT26 flT26 fdT26_0 fdT26_1 fdT26_2 fdT26_3 zoT26 szT28 byT28 agT28 flT28 fdT28_0 fdT28_1 fdT28_2 zoT28 szT67 byT67 agT67 flT67 fdT67_0 fdT67_1 zoT67 szT69 byT69 agT69 flT69 fdT69_0 fdT69_1 zoT69 szT113 byT113 agT113 flT113 fdT113_0 fdT113_1 zoT113 szT115 byT115 agT115 flT115 fdT115_0 fdT115_1 fdT115_2 zoT115

theorem pt3_fc {j : Nat} {x y w : Int} (bx : Bg j x) (bY : Bg j y) (bw : Bg j w) (hj : j ≤ 68719476736) : FC Try.prog 102 [l3A x y w] (.tup [.agg [.int .u64 (pt3 x y w).x.a, .int .u64 (pt3 x y w).x.b, .int .u64 (pt3 x y w).x.c, .int .u64 (pt3 x y w).x.d, .int .u64 (pt3 x y w).y.a, .int .u64 (pt3 x y w).y.b, .int .u64 (pt3 x y w).y.c, .int .u64 (pt3 x y w).y.d, .int .u64 (pt3 x y w).w.a, .int .u64 (pt3 x y w).w.b, .int .u64 (pt3 x y w).w.c, .int .u64 (pt3 x y w).w.d], .bool (sm x y w)]) := l3Point_fc x y w bx bY bw hj
theorem mtS_lin {u v : Sg} (gu : u.good = true) (gv : v.good = true) (h0 : crs u.a u.b v.a = 0 ∧ crs u.a u.b v.b = 0) : mtF meetS u v = linP u v := by unfold mtF meetS; rw [gu, gv, if_pos h0]; rfl
theorem mtS_no {u v : Sg} (gu : u.good = true) (gv : v.good = true) (h0 : ¬ (crs u.a u.b v.a = 0 ∧ crs u.a u.b v.b = 0)) (hw : noWay u v = true) : mtF meetS u v = (0, pt0, pt0) := by unfold mtF meetS; rw [gu, gv, if_neg h0, if_pos hw]; rfl
theorem mtS_way {u v : Sg} (gu : u.good = true) (gv : v.good = true) (h0 : ¬ (crs u.a u.b v.a = 0 ∧ crs u.a u.b v.b = 0)) (hw : ¬ noWay u v = true) : mtF meetS u v = (1, pt3 (nX u v) (nY u v) (nW u v), pt0) := by
  have e : mkP (wayX2 u v) (wayY2 u v) (denS u v) = pt3 (nX u v) (nY u v) (nW u v) := by unfold mkP; rw [if_neg (den_ne gu gv h0 hw)]; rfl
  unfold mtF meetS; rw [gu, gv, if_neg h0, if_neg hw, e]; rfl
theorem way_bg {u v : Sg} (gu : u.good = true) (gv : v.good = true) (h0 : ¬ (crs u.a u.b v.a = 0 ∧ crs u.a u.b v.b = 0)) (hw : ¬ noWay u v = true) : Bg 3 (nX u v) ∧ Bg 3 (nY u v) ∧ Bg 3 (nW u v) := by
  have pua := Sp.b (good_a gu)
  have pub := Sp.b (good_b gu)
  have pva := Sp.b (good_a gv)
  have pvb := Sp.b (good_b gv)
  have m1 := mul_b (u := u.b.x - u.a.x) (v := v.b.y - v.a.y) (m := 2000000) (n := 2000000) (by omega) (by omega) (by omega) (by omega) (by omega)
  have m2 := mul_b (u := u.b.y - u.a.y) (v := v.b.x - v.a.x) (m := 2000000) (n := 2000000) (by omega) (by omega) (by omega) (by omega) (by omega)
  have m3 := mul_b (u := v.a.x - u.a.x) (v := v.b.y - v.a.y) (m := 2000000) (n := 2000000) (by omega) (by omega) (by omega) (by omega) (by omega)
  have m4 := mul_b (u := v.a.y - u.a.y) (v := v.b.x - v.a.x) (m := 2000000) (n := 2000000) (by omega) (by omega) (by omega) (by omega) (by omega)
  have b3 : Bg 1 (denS u v) := Bg.i64 (by unfold denS; omega) (by unfold denS; omega)
  have b4 : Bg 1 (numT u v) := Bg.i64 (by unfold numT; omega) (by unfold numT; omega)
  have hg := gcd3_pos (x := wayX2 u v) (y := wayY2 u v) (den_ne gu gv h0 hw)
  have bx : Bg 3 (wayX2 u v) := (((Bg.i64 (n := u.a.x) (by omega) (by omega)).mul b3).add ((Bg.i64 (n := u.b.x - u.a.x) (by omega) (by omega)).mul b4)).le (by omega)
  have bY : Bg 3 (wayY2 u v) := (((Bg.i64 (n := u.a.y) (by omega) (by omega)).mul b3).add ((Bg.i64 (n := u.b.y - u.a.y) (by omega) (by omega)).mul b4)).le (by omega)
  exact ⟨bx.nrm.div hg, bY.nrm.div hg, (b3.le (by omega)).nrm.div hg⟩

section
attribute [local simp] idf_numS cells_numS numS_fold Sp.av Sp.cells Sg.av Sg.cells l3A l3C z3
set_option maxHeartbeats 4000000 in
theorem meetS_fc (u v : Sg) : FC Try.prog 71 [u.av, v.av] (.tup [.int .i64 (mtF meetS u v).1, .agg [.int .u64 ((mtF meetS u v).2.1).x.a, .int .u64 ((mtF meetS u v).2.1).x.b, .int .u64 ((mtF meetS u v).2.1).x.c, .int .u64 ((mtF meetS u v).2.1).x.d, .int .u64 ((mtF meetS u v).2.1).y.a, .int .u64 ((mtF meetS u v).2.1).y.b, .int .u64 ((mtF meetS u v).2.1).y.c, .int .u64 ((mtF meetS u v).2.1).y.d, .int .u64 ((mtF meetS u v).2.1).w.a, .int .u64 ((mtF meetS u v).2.1).w.b, .int .u64 ((mtF meetS u v).2.1).w.c, .int .u64 ((mtF meetS u v).2.1).w.d], .agg [.int .u64 ((mtF meetS u v).2.2).x.a, .int .u64 ((mtF meetS u v).2.2).x.b, .int .u64 ((mtF meetS u v).2.2).x.c, .int .u64 ((mtF meetS u v).2.2).x.d, .int .u64 ((mtF meetS u v).2.2).y.a, .int .u64 ((mtF meetS u v).2.2).y.b, .int .u64 ((mtF meetS u v).2.2).y.c, .int .u64 ((mtF meetS u v).2.2).y.d, .int .u64 ((mtF meetS u v).2.2).w.a, .int .u64 ((mtF meetS u v).2.2).w.b, .int .u64 ((mtF meetS u v).2.2).w.c, .int .u64 ((mtF meetS u v).2.2).w.d]]) := by
 refine .b Try.func71 54 (fun nx K hK => ?_) (hi := by simp [idfL, idf, Sp.av, Sp.cells, Sg.av, Sg.cells])
 refine .q ?_
 refine .sq fun K2 hK2 => ?_
 refine .sq fun K3 hK3 => ?_
 cases hga : u.good
 ·refine .region ?_
  refine .kf 1 (segOkS_fc u) hb122 ?_ (by simp (disch := first|omega|(simp only[ln];omega)) [List.take_succ_cons, List.take_zero, hga]; rfl) (ha := by simp (disch := first|omega|(simp only[ln];omega)) [idf_Wd', hga])
  refine .e ?_ (by simp (disch := first|omega|(simp only[ln];omega)) [hga]; rfl)
  refine hK3 _ ?_
  refine .c (fun h21 => ?_) (fun h21 => ?_)
  ·try simp only[dc]at h21
   refine .q ?_
   refine .ret ?_
   exact hK _ _ _ _ trivial ((Fin.m).cast (by unfold mtF; rw [hga]; rfl))
  ·simp at h21
 ·refine .region ?_
  refine .kf 1 (segOkS_fc u) hb122 ?_ (by simp (disch := first|omega|(simp only[ln];omega)) [List.take_succ_cons, List.take_zero, hga]; rfl) (ha := by simp (disch := first|omega|(simp only[ln];omega)) [idf_Wd', hga])
  refine .kf 3 (segOkS_fc v) hb122 ?_ (by simp (disch := first|omega|(simp only[ln];omega)) [List.take_succ_cons, List.take_zero, hga]; rfl) (ha := by simp (disch := first|omega|(simp only[ln];omega)) [idf_Wd', hga])
  refine .e ?_ (by simp (disch := first|omega|(simp only[ln];omega)) [hga]; rfl)
  refine hK3 _ ?_
  refine .c (t := !v.good) (fun h21 => ?_) (fun h21 => ?_)
  ·try simp only[dc]at h21
   have hgb : v.good = false := by simpa using h21
   refine .q ?_
   refine .ret ?_
   exact hK _ _ _ _ trivial ((Fin.m).cast (by unfold mtF; rw [hga, hgb]; rfl))
  ·try simp only[dc]at h21
   have hgb : v.good = true := by simpa using h21
   have o := l4Meet_fc u v hga hgb
   unfold l4V at o
   refine .skip ?_
   refine hK2 _ ?_
   refine .sq fun K6 hK6 => ?_
   by_cases h0 : crs u.a u.b v.a = 0 ∧ crs u.a u.b v.b = 0
   ·rw [if_pos h0] at o
    have hM := mtS_lin hga hgb h0
    unfold linP at hM
    have pl := Sp.b (low_good hga hgb)
    have ph := Sp.b (high_good hga hgb)
    by_cases k1 : lsS (highS u v) (lowS u v) = true
    ·rw [if_pos k1] at o hM
     refine .region ?_
     refine .kf 2 o hb95 ?_
     refine .e ?_
     refine hK6 _ ?_
     refine .sq fun K7 hK7 => ?_
     refine .q ?_
     refine .c (fun h32 => ?_) (fun h32 => ?_)
     ·try simp only[dc]at h32
      refine .q ?_
      refine .ret ?_
      exact hK _ _ _ _ trivial ((Fin.m).cast (by rw [hM]; try rfl))
     ·simp at h32
    ·rw [if_neg k1] at o hM
     generalize lowS u v = lo at *
     generalize highS u v = hi at *
     by_cases k2 : lo = hi
     ·rw [if_pos k2] at o hM
      refine .region ?_
      refine .kf 2 o hb95 ?_
      refine .e ?_
      refine hK6 _ ?_
      refine .sq fun K10 hK10 => ?_
      refine .q ?_
      refine .c (fun h32 => ?_) (fun h32 => ?_)
      ·simp at h32
      ·try simp only[dc]at h32
       refine .skip ?_
       refine hK10 _ ?_
       refine .sq fun K12 hK12 => ?_
       refine .region ?_
       refine .kf 1 (pt3_fc (Bg.i64 (n := lo.x) (by omega) (by omega)) (Bg.i64 (n := lo.y) (by omega) (by omega)) (Bg.i64 (n := 1) (by omega) (by omega)) (by omega)) hb102 ?_
       refine .e ?_
       refine hK12 _ ?_
       refine .sq fun K13 hK13 => ?_
       refine .q ?_
       refine .c (fun h42 => ?_) (fun h42 => ?_)
       ·try simp only[dc]at h42
        refine .sq fun K15 hK15 => ?_
        refine .old fun hold => ?_
        refine .d 3 ?_
        refine .k 2 (fun fs16 hfs16 => ?_)
        refine DP.runF1q (by simp (disch := first|omega|(simp only[ln];omega)) [runDf.eq_def, runF1, runF2, stepF.eq_def, updo.eq_def, hupo.eq_def, opSto1.eq_def]; rfl) fun fq17 hfq17 => ?_
        simp [qids, asksB, Op.operands, topId] at hfq17
        simp only [updo]
        refine DQ.asg1 _ rfl rfl ?_
        simp only [updo]
        refine DQ.sto1 (m := 3) [2] _ (by simp (disch := first|omega|(simp only[ln];omega)) [runDf.eq_def, runF1, runF2, stepF.eq_def, updo.eq_def, hupo.eq_def, opSto1.eq_def]; rfl) rfl (by simp only[ln, hfs16];omega) (by kernel_rfl) (by intro k f hk hex; simp only [List.mem_cons, List.not_mem_nil, or_false] at hex; rcases hex with rfl <;> (simp [List.getElem?_append, hfs16] at hk; subst hk; refine ⟨?_, by first | omega | (simp; done) | (simp; omega)⟩; simp [qids, asksB, Op.operands, Call.operands, topId, numS, numI, Wd, hfq17]; try omega)) ?_
        try simp only []
        refine DQ.sto1 (m := 3) [] _ (by simp (disch := first|omega|(simp only[ln];omega)) [runDf.eq_def, runF1, runF2, stepF.eq_def, updo.eq_def, hupo.eq_def, opSto1.eq_def]; rfl) rfl (by simp only[ln, hfs16];omega) (by kernel_rfl) (by intro k f hk hex; simp only [List.not_mem_nil] at hex) ?_
        try simp only []
        refine hK15 _ ?_
        refine .ret ?_
        exact hK _ _ _ _ trivial ((Fin.m).cast (by rw [hM]; try rfl))
       ·simp at h42
     ·rw [if_neg k2] at o hM
      refine .region ?_
      refine .kf 2 o hb95 ?_
      refine .e ?_
      refine hK6 _ ?_
      refine .sq fun K18 hK18 => ?_
      refine .q ?_
      refine .c (fun h32 => ?_) (fun h32 => ?_)
      ·simp at h32
      ·try simp only[dc]at h32
       refine .skip ?_
       refine hK18 _ ?_
       refine .sq fun K20 hK20 => ?_
       refine .region ?_
       refine .kf 1 (pt3_fc (Bg.i64 (n := lo.x) (by omega) (by omega)) (Bg.i64 (n := lo.y) (by omega) (by omega)) (Bg.i64 (n := 1) (by omega) (by omega)) (by omega)) hb102 ?_
       refine .e ?_
       refine hK20 _ ?_
       refine .sq fun K21 hK21 => ?_
       refine .q ?_
       refine .c (fun h42 => ?_) (fun h42 => ?_)
       ·simp at h42
       ·try simp only[dc]at h42
        refine .skip ?_
        refine hK21 _ ?_
        refine .sq fun K23 hK23 => ?_
        refine .region ?_
        refine .kf 1 (pt3_fc (Bg.i64 (n := hi.x) (by omega) (by omega)) (Bg.i64 (n := hi.y) (by omega) (by omega)) (Bg.i64 (n := 1) (by omega) (by omega)) (by omega)) hb102 ?_
        refine .e ?_
        refine hK23 _ ?_
        refine .sq fun K24 hK24 => ?_
        refine .old fun hold => ?_
        refine .d 3 ?_
        refine .k 2 (fun fs25 hfs25 => ?_)
        refine DP.runF1q (by simp (disch := first|omega|(simp only[ln];omega)) [runDf.eq_def, runF1, runF2, stepF.eq_def, updo.eq_def, hupo.eq_def, opSto1.eq_def]; rfl) fun fq26 hfq26 => ?_
        simp [qids, asksB, Op.operands, topId] at hfq26
        simp only [updo]
        refine DQ.asg1 _ rfl rfl ?_
        simp only [updo]
        refine DQ.sto1 (m := 3) [2] _ (by simp (disch := first|omega|(simp only[ln];omega)) [runDf.eq_def, runF1, runF2, stepF.eq_def, updo.eq_def, hupo.eq_def, opSto1.eq_def]; rfl) rfl (by simp only[ln, hfs25];omega) (by kernel_rfl) (by intro k f hk hex; simp only [List.mem_cons, List.not_mem_nil, or_false] at hex; rcases hex with rfl <;> (simp [List.getElem?_append, hfs25] at hk; subst hk; refine ⟨?_, by first | omega | (simp; done) | (simp; omega)⟩; simp [qids, asksB, Op.operands, Call.operands, topId, numS, numI, Wd, hfq26]; try omega)) ?_
        try simp only []
        refine DQ.sto1 (m := 3) [] _ (by simp (disch := first|omega|(simp only[ln];omega)) [runDf.eq_def, runF1, runF2, stepF.eq_def, updo.eq_def, hupo.eq_def, opSto1.eq_def]; rfl) rfl (by simp only[ln, hfs25];omega) (by kernel_rfl) (by intro k f hk hex; simp only [List.not_mem_nil] at hex) ?_
        try simp only []
        refine hK24 _ ?_
        refine .ret ?_
        exact hK _ _ _ _ trivial ((Fin.m).cast (by rw [hM]; try rfl))
   ·rw [if_neg h0] at o
    by_cases hw : noWay u v = true
    ·rw [if_pos hw] at o
     have hM := mtS_no hga hgb h0 hw
     refine .region ?_
     refine .kf 2 o hb95 ?_
     refine .e ?_
     refine hK6 _ ?_
     refine .sq fun K27 hK27 => ?_
     refine .q ?_
     refine .c (fun h32 => ?_) (fun h32 => ?_)
     ·try simp only[dc]at h32
      refine .q ?_
      refine .ret ?_
      exact hK _ _ _ _ trivial ((Fin.m).cast (by rw [hM]; try rfl))
     ·simp at h32
    ·rw [if_neg hw] at o
     have hM := mtS_way hga hgb h0 hw
     obtain ⟨bX, bYY, bW⟩ := way_bg hga hgb h0 hw
     refine .region ?_
     refine .kf 2 o hb95 ?_
     refine .e ?_
     refine hK6 _ ?_
     refine .sq fun K30 hK30 => ?_
     refine .q ?_
     refine .c (fun h32 => ?_) (fun h32 => ?_)
     ·simp at h32
     ·try simp only[dc]at h32
      refine .skip ?_
      refine hK30 _ ?_
      refine .sq fun K32 hK32 => ?_
      refine .region ?_
      refine .kf 1 (pt3_fc bX bYY bW (by omega)) hb102 ?_
      refine .e ?_
      refine hK32 _ ?_
      refine .sq fun K33 hK33 => ?_
      refine .q ?_
      refine .c (fun h42 => ?_) (fun h42 => ?_)
      ·try simp only[dc]at h42
       refine .sq fun K35 hK35 => ?_
       refine .old fun hold => ?_
       refine .d 3 ?_
       refine .k 2 (fun fs36 hfs36 => ?_)
       refine DP.runF1q (by simp (disch := first|omega|(simp only[ln];omega)) [runDf.eq_def, runF1, runF2, stepF.eq_def, updo.eq_def, hupo.eq_def, opSto1.eq_def]; rfl) fun fq37 hfq37 => ?_
       simp [qids, asksB, Op.operands, topId] at hfq37
       simp only [updo]
       refine DQ.asg1 _ rfl rfl ?_
       simp only [updo]
       refine DQ.sto1 (m := 3) [2] _ (by simp (disch := first|omega|(simp only[ln];omega)) [runDf.eq_def, runF1, runF2, stepF.eq_def, updo.eq_def, hupo.eq_def, opSto1.eq_def]; rfl) rfl (by simp only[ln, hfs36];omega) (by kernel_rfl) (by intro k f hk hex; simp only [List.mem_cons, List.not_mem_nil, or_false] at hex; rcases hex with rfl <;> (simp [List.getElem?_append, hfs36] at hk; subst hk; refine ⟨?_, by first | omega | (simp; done) | (simp; omega)⟩; simp [qids, asksB, Op.operands, Call.operands, topId, numS, numI, Wd, hfq37]; try omega)) ?_
       try simp only []
       refine DQ.sto1 (m := 3) [] _ (by simp (disch := first|omega|(simp only[ln];omega)) [runDf.eq_def, runF1, runF2, stepF.eq_def, updo.eq_def, hupo.eq_def, opSto1.eq_def]; rfl) rfl (by simp only[ln, hfs36];omega) (by kernel_rfl) (by intro k f hk hex; simp only [List.not_mem_nil] at hex) ?_
       try simp only []
       refine hK35 _ ?_
       refine .ret ?_
       exact hK _ _ _ _ trivial ((Fin.m).cast (by rw [hM]; try rfl))
      ·simp at h42
end

end Go.Proofs.Ytmaebeknmiomnaa

/- Walks: FnPointOrder, walked. -/
namespace Go.Proofs.Ytmaebeknmiomnaa
open Go Go.RowKit
set_option linter.unusedSimpArgs false
set_option linter.unusedVariables false
set_option maxRecDepth 100000
attribute [local simp] szT24 byT24 agT24 unT24 zoT24 szT26 byT26 agT26 flT26 fdT26_0 fdT26_1 fdT26_2 fdT26_3 zoT26 szT28 byT28 agT28 flT28 fdT28_0 fdT28_1 fdT28_2 zoT28 szT80 byT80 agT80 elT80 unT80 zoT80 szT119 byT119 agT119 flT119 fdT119_0 fdT119_1 zoT119 szT121 byT121 agT121 flT121 fdT121_0 fdT121_1 fdT121_2 zoT121

section
attribute [local simp] idf_numS cells_numS numS_fold idf_numI cells_numI numI_fold Pt.av Pt.cells
set_option maxHeartbeats 1000000 in
theorem pointCmpI_fc (p q : Pt) (hp : p.ok) (hq : q.ok) : FC Try.prog 17 [p.av, q.av] (.int .i64 (oc p q)) := by
 have ha := arePoints_fc [p, q] (by simp [hp, hq]) (by simp)
 have e : [p, q].all Pt.good = (p.good && q.good) := by simp
 rw [e] at ha
 refine .b Try.func17 13 (fun nx K hK => ?_) (hi := by simp [idfL, idf, Pt.av, Pt.cells])
 refine .q ?_
 refine .sq fun K2 hK2 => ?_
 refine .sq fun K3 hK3 => ?_
 refine .region ?_
 refine .k 3 ?_
 refine AOPS.frz1 7 (nx + 1 + 1) 12 [p.cells, q.cells] (.isl [p.cells, q.cells]) (by simp [Pt.cells]) (by simp [fz]) ?_
 refine .f ha hb79 ?_
 refine .e ?_
 refine hK3 _ ?_
 refine .c (t := !(p.good && q.good)) (fun h9 => ?_) (fun h9 => ?_)
 ·try simp only[dc]at h9
  have hg : (p.good && q.good) = false := by revert h9; cases p.good <;> cases q.good <;> simp
  refine .q ?_
  refine .ret ?_
  exact hK _ _ _ _ trivial ((Fin.m).cast (by unfold oc; rw [hg]; rfl))
 ·try simp only[dc]at h9
  have hg : (p.good && q.good) = true := by revert h9; cases p.good <;> cases q.good <;> simp
  refine .skip ?_
  refine hK2 _ ?_
  refine .sq fun K5 hK5 => ?_
  refine .region ?_
  refine .kf 2 (cmpPoints_fc p q hp hq) hb80 ?_
  refine .e ?_
  refine hK5 _ ?_
  refine .ret ?_
  exact hK _ _ _ _ trivial ((Fin.m).cast (by unfold oc; rw [if_pos hg]))
end
section
attribute [local simp] idf_numS cells_numS numS_fold idf_numI cells_numI numI_fold wdI
end

end Go.Proofs.Ytmaebeknmiomnaa

/- Walks: FnMiddles, walked. -/
namespace Go.Proofs.Ytmaebeknmiomnaa
open Go Go.RowKit
set_option linter.unusedSimpArgs false
set_option linter.unusedVariables false
set_option maxRecDepth 100000
attribute [local simp] szT4 byT4 agT4 unT4 zoT4 szT26 byT26 agT26 flT26 fdT26_0 fdT26_1 fdT26_2 fdT26_3 zoT26 szT28 byT28 agT28 flT28 fdT28_0 fdT28_1 fdT28_2 zoT28 szT51 byT51 agT51 flT51 fdT51_0 fdT51_1 zoT51 szT80 byT80 agT80 elT80 unT80 zoT80 szT117 byT117 agT117 elT117 unT117 zoT117 szT119 byT119 agT119 flT119 fdT119_0 fdT119_1 zoT119 szT121 byT121 agT121 flT121 fdT121_0 fdT121_1 fdT121_2 zoT121 szT143 byT143 agT143 flT143 fdT143_0 fdT143_1 zoT143

section
attribute [local simp] idf_numS cells_numS numS_fold idf_numI cells_numI numI_fold Pt.av Pt.cells spA spC numC
set_option maxHeartbeats 4000000 in
theorem middleI_fc (p q : Pt) (hp : p.ok) (hq : q.ok) : FC Try.prog 29 [p.av, q.av] (.tup [.agg [.int .u64 (midP p q).x.a, .int .u64 (midP p q).x.b, .int .u64 (midP p q).x.c, .int .u64 (midP p q).x.d, .int .u64 (midP p q).y.a, .int .u64 (midP p q).y.b, .int .u64 (midP p q).y.c, .int .u64 (midP p q).y.d, .int .u64 (midP p q).w.a, .int .u64 (midP p q).w.b, .int .u64 (midP p q).w.c, .int .u64 (midP p q).w.d], .bool (midB p q)]) := by
 have ha := arePoints_fc [p, q] (by simp [hp, hq]) (by simp)
 have e : [p, q].all Pt.good = (p.good && q.good) := by simp
 rw [e] at ha
 have pX := W4.bg hp.1
 have pY := W4.bg hp.2.1
 have pW := W4.bg hp.2.2
 have qX := W4.bg hq.1
 have qY := W4.bg hq.2.1
 have qW := W4.bg hq.2.2
 refine .b Try.func29 51 (fun nx K hK => ?_) (hi := by simp [idfL, idf, Pt.av, Pt.cells])
 refine .q ?_
 refine .sq fun K2 hK2 => ?_
 refine .sq fun K3 hK3 => ?_
 refine .region ?_
 refine .k 3 ?_
 refine AOPS.frz1 10 (nx + 1 + 1 + 1) 12 [p.cells, q.cells] (.isl [p.cells, q.cells]) (by simp [Pt.cells]) (by simp [fz]) ?_
 refine .f ha hb79 ?_
 refine .e ?_
 refine hK3 _ ?_
 refine .c (t := !(p.good && q.good)) (fun h12 => ?_) (fun h12 => ?_)
 ·try simp only[dc]at h12
  have hg : (p.good && q.good) = false := by revert h12; cases p.good <;> cases q.good <;> simp
  refine .q ?_
  refine .ret ?_
  exact hK _ _ _ _ trivial ((Fin.m).cast (by unfold midP midB; rw [hg]; rfl))
 ·try simp only[dc]at h12
  have hg : (p.good && q.good) = true := by revert h12; cases p.good <;> cases q.good <;> simp
  refine .skip ?_
  refine hK2 _ ?_
  refine .sq fun K5 hK5 => ?_
  refine .old fun hold => ?_
  refine .d 6 ?_
  refine .k 1 (fun fs6 hfs6 => ?_)
  refine .f (spot_fc p hp) hb84 ?_
  refine DP.runF1q (by simp (disch := first|omega|(simp only[ln];omega)) [runDf.eq_def, runF1, runF2, stepF.eq_def, updo.eq_def, hupo.eq_def, opSto1.eq_def]; rfl) fun fq7 hfq7 => ?_
  simp [qids, asksB, Op.operands, topId] at hfq7
  simp only [updo]
  refine .f (spot_fc q hq) hb84 ?_
  refine .k 2 (fun fs8 hfs8 => ?_)
  refine DQ.sto1 (m := 6) [2] _ (by simp (disch := first|omega|(simp only[ln];omega)) [runDf.eq_def, runF1, runF2, stepF.eq_def, updo.eq_def, hupo.eq_def, opSto1.eq_def]; rfl) rfl (by simp only[ln, hfs6, hfs8];omega) (by kernel_rfl) (by intro k f hk hex; simp only [List.mem_cons, List.not_mem_nil, or_false] at hex; rcases hex with rfl <;> (simp [List.getElem?_append, hfs6, hfs8] at hk; subst hk; refine ⟨?_, by first | omega | (simp; done) | (simp; omega)⟩; simp [qids, asksB, Op.operands, Call.operands, topId, numS, numI, Wd, hfq7]; try omega)) ?_
  try simp only []
  refine DQ.sto1 (m := 6) [] _ (by simp (disch := first|omega|(simp only[ln];omega)) [runDf.eq_def, runF1, runF2, stepF.eq_def, updo.eq_def, hupo.eq_def, opSto1.eq_def]; rfl) rfl (by simp only[ln, hfs6, hfs8];omega) (by kernel_rfl) (by intro k f hk hex; simp only [List.not_mem_nil] at hex) ?_
  try simp only []
  refine hK5 _ ?_
  refine .sq fun K9 hK9 => ?_
  have e3 : p.w.v * q.w.v * 2 = midW p q := by unfold midW; rw [Int.mul_comm]
  have sp := spotPoint_fc (j := 10) (midX p q) (midY p q) (midW p q) (((pX.mul qW).add (qX.mul pW)).le (by omega)) (((pY.mul qW).add (qY.mul pW)).le (by omega)) (((Bg.i64 (n := 2) (by omega) (by omega)).mul (pW.mul qW)).le (by omega)) (by omega)
  have b3 := by_fc (pW.mul qW) (Bg.i64 (n := 2) (by omega) (by omega)) (by omega) (by omega)
  rw [e3] at b3
  have p1 := plus_fc (pX.mul qW) (qX.mul pW) (by omega) (by omega)
  have p2 := plus_fc (pY.mul qW) (qY.mul pW) (by omega) (by omega)
  rw [show p.x.v * q.w.v + q.x.v * p.w.v = midX p q from rfl] at p1
  rw [show p.y.v * q.w.v + q.y.v * p.w.v = midY p q from rfl] at p2
  refine .d 33 ?_
  refine .k 4 (fun fs10 hfs10 => ?_)
  refine .f (by_fc pX qW (by omega) (by omega)) hb92 ?_
  refine .k 4 (fun fs11 hfs11 => ?_)
  refine .f (by_fc qX pW (by omega) (by omega)) hb92 ?_
  refine .f p1 hb101 ?_
  refine .k 4 (fun fs12 hfs12 => ?_)
  refine .f (by_fc pY qW (by omega) (by omega)) hb92 ?_
  refine .k 4 (fun fs13 hfs13 => ?_)
  refine .f (by_fc qY pW (by omega) (by omega)) hb92 ?_
  refine .f p2 hb101 ?_
  refine .k 4 (fun fs14 hfs14 => ?_)
  refine .f (by_fc pW qW (by omega) (by omega)) hb92 ?_
  refine .f (whole_fc 2 (by omega) (by omega)) hb89 ?_
  refine .f b3 hb92 ?_
  refine .k 1 (fun fs15 hfs15 => ?_)
  refine .f sp hb93 ?_
  refine .k 2 (fun fs16 hfs16 => ?_)
  refine .r 33 (by simp only[ln, hfs10, hfs11, hfs12, hfs13, hfs14, hfs15, hfs16];omega) ?_
  refine hK9 _ ?_
  refine .ret ?_
  exact hK _ _ _ _ trivial ((Fin.m).cast (by unfold midP midB; rw [if_pos hg, if_pos hg]; try rfl))
end
section
attribute [local simp] idf_numS cells_numS numS_fold idf_numI cells_numI numI_fold Pt.av Pt.cells
end
section
attribute [local simp] idf_numS cells_numS numS_fold idf_numI cells_numI numI_fold Pt.av Pt.cells spA spC numC rtA rtC
end

end Go.Proofs.Ytmaebeknmiomnaa

/- Walks: drawn segments. -/
namespace Go.Proofs.Ytmaebeknmiomnaa
open Go Go.RowKit
set_option linter.unusedSimpArgs false
set_option linter.unusedVariables false
set_option maxRecDepth 100000
attribute [local simp] szT2 byT2 agT2 unT2 zoT2 szT3 byT3 agT3 unT3 zoT3 szT67 byT67 agT67 flT67 fdT67_0 fdT67_1 zoT67 szT69 byT69 agT69 flT69 fdT69_0 fdT69_1 zoT69 szT228 byT228 agT228 elT228 unT228 zoT228

def tabO : List Int := [-1000001, 1000001, -9223372036854775808, 9223372036854775807]
theorem tabO_b (k : Nat) : I64 (gt tabO k) := by
  have h : ∀ x ∈ tabO, -9223372036854775808 ≤ x ∧ x ≤ 9223372036854775807 := by decide
  unfold gt I64
  cases hk : tabO[k]? with
  | none => simp
  | some x => simpa using h x (List.mem_of_getElem? hk)
def sgZ : Sg := ⟨⟨0, 0⟩, ⟨0, 0⟩⟩
def segS (a b : Sp) : Sg × Bool := if (segO a b).good = true then (segO a b, true) else (sgZ, false)
theorem segO_ok {a b : Sp} (ha : a.ok) (hb : b.ok) : (segO a b).ok := by unfold segO; split; exact ⟨hb, ha⟩; exact ⟨ha, hb⟩
theorem sgZ_ok : sgZ.ok := by unfold Sg.ok Sp.ok I64 sgZ; simp
theorem segS_ok {a b : Sp} (ha : a.ok) (hb : b.ok) : (segS a b).1.ok := by unfold segS; split; exact segO_ok ha hb; exact sgZ_ok

section
attribute [local simp] Sp.av Sp.cells Sg.av Sg.cells
set_option maxHeartbeats 2000000 in
theorem segOfS_fc (a b : Sp) : FC Try.prog 155 [a.av, b.av] (.tup [.agg [.int .i64 ((segS a b).1).a.x, .int .i64 ((segS a b).1).a.y, .int .i64 ((segS a b).1).b.x, .int .i64 ((segS a b).1).b.y], .bool (segS a b).2]) := by
 refine .b Try.func155 20 (fun nx K hK => ?_) (hi := by simp [idfL, idf, Sp.av, Sp.cells, Sg.av, Sg.cells])
 refine .q ?_
 refine .sq fun K2 hK2 => ?_
 refine .sq fun K3 hK3 => ?_
 cases hl : lsS b a
 ·have es : segO a b = ⟨a, b⟩ := by unfold segO; rw [hl]; rfl
  refine .region ?_
  refine .kf 2 (l4Less_fc b a) hb183 ?_ (by simp (disch := first|omega|(simp only[ln];omega)) [List.take_succ_cons, List.take_zero, hl]; rfl) (ha := by simp (disch := first|omega|(simp only[ln];omega)) [idf_Wd', hl])
  refine .nil ?_
  refine hK3 _ ?_
  refine .c (fun h9 => ?_) (fun h9 => ?_)
  ·simp [hl] at h9
  ·try simp only[dc]at h9
   refine .skip ?_
   refine hK2 _ ?_
   refine .q ?_
   refine .sq fun K5 hK5 => ?_
   refine .sq fun K6 hK6 => ?_
   refine .region ?_
   refine .kf 1 (segOkS_fc ⟨a, b⟩) hb122 ?_
   refine .e ?_
   refine hK6 _ ?_
   refine .c (t := !(Sg.good ⟨a, b⟩)) (fun h17 => ?_) (fun h17 => ?_)
   ·try simp only[dc]at h17
    have hg : (segO a b).good = false := by rw [es]; simpa using h17
    refine .q ?_
    refine .ret ?_
    exact hK _ _ _ _ trivial ((Fin.m).cast (by unfold segS; rw [hg]; rfl))
   ·try simp only[dc]at h17
    have hg : (segO a b).good = true := by rw [es]; simpa using h17
    refine .skip ?_
    refine hK5 _ ?_
    refine .q ?_
    refine .ret ?_
    exact hK _ _ _ _ trivial ((Fin.m).cast (by unfold segS; rw [if_pos hg, es]; try rfl))
 ·have es : segO a b = ⟨b, a⟩ := by unfold segO; rw [hl]; rfl
  refine .region ?_
  refine .kf 2 (l4Less_fc b a) hb183 ?_ (by simp (disch := first|omega|(simp only[ln];omega)) [List.take_succ_cons, List.take_zero, hl]; rfl) (ha := by simp (disch := first|omega|(simp only[ln];omega)) [idf_Wd', hl])
  refine .nil ?_
  refine hK3 _ ?_
  refine .c (fun h9 => ?_) (fun h9 => ?_)
  ·try simp only[dc]at h9
   refine .r ?_
   refine hK2 _ ?_
   refine .q ?_
   refine .sq fun K10 hK10 => ?_
   refine .sq fun K11 hK11 => ?_
   refine .region ?_
   refine .kf 1 (segOkS_fc ⟨b, a⟩) hb122 ?_
   refine .e ?_
   refine hK11 _ ?_
   refine .c (t := !(Sg.good ⟨b, a⟩)) (fun h17 => ?_) (fun h17 => ?_)
   ·try simp only[dc]at h17
    have hg : (segO a b).good = false := by rw [es]; simpa using h17
    refine .q ?_
    refine .ret ?_
    exact hK _ _ _ _ trivial ((Fin.m).cast (by unfold segS; rw [hg]; rfl))
   ·try simp only[dc]at h17
    have hg : (segO a b).good = true := by rw [es]; simpa using h17
    refine .skip ?_
    refine hK10 _ ?_
    refine .q ?_
    refine .ret ?_
    exact hK _ _ _ _ trivial ((Fin.m).cast (by unfold segS; rw [if_pos hg, es]; try rfl))
  ·simp [hl] at h9
end
set_option maxHeartbeats 2000000 in
theorem off_ac (l : List Int) (p id : Nat) (H : Heap) (nx : Nat) (dl : Dig 256 l) (hl : l.length ≤ 1048576) (hp : p ≤ l.length) (hH : H id = some (2, [[Wd .u8 l, .int .i64 (p : Int)]])) (hd : ∀ i q, H i = some q → i < nx) : ACall Try.prog 129 [.ptr id 0 0, .int .i64 (-1000000), .int .i64 1000000] H nx (fun r H' nx' => (∃ k : Int, r = .int .i64 k ∧ I64 k) ∧ (∃ p' : Nat, p' ≤ l.length ∧ H' = hupd H id (some (2, [[Wd .u8 l, .int .i64 (p' : Int)]]))) ∧ nx ≤ nx') := by
 have hid := hd id _ hH
 have tOl : tabO.length = 4 := rfl
 refine .b Try.func129 22 fun K hK => ?_
 refine .q ?_
 refine .sq fun K2 hK2 => ?_
 refine .sq fun K3 hK3 => ?_
 refine .region ?_
 refine .k 1 ?_ (by simp (disch := first|omega|(simp only[ln];omega)) [List.take_succ_cons, List.take_zero, hH]; rfl)
 refine AOPS.old fun hold1 => ?_
 refine .a (once_ac 24 (by omega) (by omega) l p id _ _ dl hl hp (by simp (disch := omega) [hH]) hold1) hb78 ?_ (ha := by simp (disch := first|omega|(simp only[ln];omega)) [idf_Wd', hH])
 rintro _ _ nx2 ⟨⟨b, rfl⟩, ⟨p2, hp2, rfl⟩, hnx2⟩
 try simp only [] at hnx2
 clear hold1
 refine .nil ?_
 refine hK3 _ ?_
 refine .c (t := b) (fun h8 => ?_) (fun h8 => ?_)
 ·try simp only[dc]at h8
  refine .sq fun K4 hK4 => ?_
  refine .region ?_
  refine .k 6 ?_ (by simp (disch := first|omega|(simp only[ln];omega)) [List.take_succ_cons, List.take_zero, idx_WdD (P := Try.prog) elT228 szT2, if_pos, tOl]; rfl)
  refine AOPS.frz1 13 nx2 1 (wd .i64 tabO) (Wd .i64 tabO) (by simp; rfl) (by simp; first | exact fz_wd rfl | exact isl_take_wd (by decide)) ?_
  refine AOPS.old fun hold6 => ?_
  refine .a (below_ac 4 (by omega) (by omega) l p2 id _ _ dl hl hp2 (by simp (disch := omega) [hH]) hold6) hb159 ?_ (ha := by simp (disch := first|omega|(simp only[ln];omega)) [idf_Wd', idx_WdD (P := Try.prog) elT228 szT2, if_pos, tOl])
  rintro _ _ nx3 ⟨⟨k, rfl, k0, k1⟩, ⟨p3, hp3, rfl⟩, hnx3⟩
  try simp only [] at hnx3
  clear hold6
  have hk : k.toNat < 4 := by omega
  refine .e ?_ (by simp (disch := first|omega|(simp only[ln];omega)) [idx_WdD (P := Try.prog) elT228 szT2, if_pos, tOl]; rfl)
  refine hK4 _ ?_
  refine .ret ?_
  exact hK _ _ _ _ _ trivial ((Fin.mk (r := .int .i64 (gt tabO k.toNat)) (by simp (disch := omega) [aRes, aResL, aRes1])).restr (fun i => decide (i < nx))) (⟨⟨gt tabO k.toNat, rfl, tabO_b _⟩, ⟨p3, hp3, by simp (disch := first | omega | (simp; done) | (simp; omega)) [hrestr_in, hrestr_out, hrestr_all hd, hupd_same]⟩, by first | omega | (simp at *; omega)⟩)
 ·try simp only[dc]at h8
  refine .skip ?_
  refine hK2 _ ?_
  refine .sq fun K5 hK5 => ?_
  refine .region ?_
  refine .k 3 ?_
  refine AOPS.old fun hold3 => ?_
  refine .a (near_ac (-1000000) (1000000) (by omega) (by omega) (by omega) l p2 id _ _ dl hl hp2 (by simp (disch := omega) [hH]) hold3) hb164 ?_
  rintro _ _ nx3 ⟨⟨k, rfl, k0, k1⟩, ⟨p3, hp3, rfl⟩, hnx3⟩
  try simp only [] at hnx3
  clear hold3
  refine .e ?_
  refine hK5 _ ?_
  refine .ret ?_
  exact hK _ _ _ _ _ trivial ((Fin.mk (r := .int .i64 k) (by simp (disch := omega) [aRes, aResL, aRes1])).restr (fun i => decide (i < nx))) (⟨⟨k, rfl, by unfold I64; omega⟩, ⟨p3, hp3, by simp (disch := first | omega | (simp; done) | (simp; omega)) [hrestr_in, hrestr_out, hrestr_all hd, hupd_same]⟩, by first | omega | (simp at *; omega)⟩)
section
attribute [local simp] Sp.av Sp.cells Sg.av Sg.cells
set_option maxHeartbeats 8000000 in
theorem seg_ac (l : List Int) (p id : Nat) (H : Heap) (nx : Nat) (dl : Dig 256 l) (hl : l.length ≤ 1048576) (hp : p ≤ l.length) (hH : H id = some (2, [[Wd .u8 l, .int .i64 (p : Int)]])) (hd : ∀ i q, H i = some q → i < nx) : ACall Try.prog 128 [.ptr id 0 0] H nx (fun r H' nx' => (∃ s : Sg, r = .agg [.int .i64 (s).a.x, .int .i64 (s).a.y, .int .i64 (s).b.x, .int .i64 (s).b.y] ∧ s.ok) ∧ (∃ p' : Nat, p' ≤ l.length ∧ H' = hupd H id (some (2, [[Wd .u8 l, .int .i64 (p' : Int)]]))) ∧ nx ≤ nx') := by
 have hid := hd id _ hH
 refine .b Try.func128 66 fun K hK => ?_
 refine .q ?_
 refine .sq fun K2 hK2 => ?_
 refine .sq fun K3 hK3 => ?_
 refine .region ?_
 refine .k 1 ?_ (by simp (disch := first|omega|(simp only[ln];omega)) [List.take_succ_cons, List.take_zero, hH]; rfl)
 refine AOPS.old fun hold1 => ?_
 refine .a (below_ac 20 (by omega) (by omega) l p id _ _ dl hl hp (by simp (disch := omega) [hH]) hold1) hb159 ?_ (ha := by simp (disch := first|omega|(simp only[ln];omega)) [idf_Wd', hH])
 rintro _ _ nx2 ⟨⟨k, rfl, k0, k1⟩, ⟨p2, hp2, rfl⟩, hnx2⟩
 try simp only [] at hnx2
 clear hold1
 refine .nil ?_
 refine hK3 _ ?_
 refine .block ?_
 refine .q ?_
 refine .c (t := k == 0) (fun h11 => ?_) (fun h11 => ?_)
 ·try simp only[dc]at h11
  refine .sq fun K5 hK5 => ?_
  refine .region ?_
  refine .k 1 ?_
  refine AOPS.old fun hold1 => ?_
  refine .a (off_ac l p2 id _ _ dl hl hp2 (by simp (disch := omega) [hH]) hold1) hb129 ?_
  rintro _ _ nx3 ⟨⟨ka, rfl, kai⟩, ⟨p3, hp3, rfl⟩, hnx3⟩
  try simp only [] at hnx3
  clear hold1
  refine .k 1 ?_
  refine AOPS.old fun hold3 => ?_
  refine .a (off_ac l p3 id _ _ dl hl hp3 (by simp (disch := omega) [hH]) hold3) hb129 ?_
  rintro _ _ nx4 ⟨⟨kb, rfl, kbi⟩, ⟨p4, hp4, rfl⟩, hnx4⟩
  try simp only [] at hnx4
  clear hold3
  refine .k 2 ?_
  refine AOPS.old fun hold6 => ?_
  refine .a (off_ac l p4 id _ _ dl hl hp4 (by simp (disch := omega) [hH]) hold6) hb129 ?_
  rintro _ _ nx5 ⟨⟨kc, rfl, kci⟩, ⟨p5, hp5, rfl⟩, hnx5⟩
  try simp only [] at hnx5
  clear hold6
  refine .k 1 ?_
  refine AOPS.old fun hold8 => ?_
  refine .a (off_ac l p5 id _ _ dl hl hp5 (by simp (disch := omega) [hH]) hold8) hb129 ?_
  rintro _ _ nx6 ⟨⟨kd, rfl, kdi⟩, ⟨p6, hp6, rfl⟩, hnx6⟩
  try simp only [] at hnx6
  clear hold8
  refine .e ?_
  refine hK5 _ ?_
  refine .ret ?_
  exact hK _ _ _ _ _ trivial ((Fin.mk (r := .agg [.int .i64 ((⟨⟨ka, kb⟩, ⟨kc, kd⟩⟩ : Sg)).a.x, .int .i64 ((⟨⟨ka, kb⟩, ⟨kc, kd⟩⟩ : Sg)).a.y, .int .i64 ((⟨⟨ka, kb⟩, ⟨kc, kd⟩⟩ : Sg)).b.x, .int .i64 ((⟨⟨ka, kb⟩, ⟨kc, kd⟩⟩ : Sg)).b.y]) (by simp (disch := omega) [aRes, aResL, aRes1])).restr (fun i => decide (i < nx))) (⟨⟨(⟨⟨ka, kb⟩, ⟨kc, kd⟩⟩ : Sg), rfl, ⟨⟨kai, kbi⟩, ⟨kci, kdi⟩⟩⟩, ⟨p6, hp6, by simp (disch := first | omega | (simp; done) | (simp; omega)) [hrestr_in, hrestr_out, hrestr_all hd, hupd_same]⟩, by first | omega | (simp at *; omega)⟩)
 ·try simp only[dc]at h11
  refine .q ?_
  refine .c (t := k == 1) (fun h24 => ?_) (fun h24 => ?_)
  ·try simp only[dc]at h24
   refine .sq fun K7 hK7 => ?_
   refine .region ?_
   refine .k 1 ?_
   refine AOPS.old fun hold1 => ?_
   refine .a (near_ac (-1000000) (1000000) (by omega) (by omega) (by omega) l p2 id _ _ dl hl hp2 (by simp (disch := omega) [hH]) hold1) hb164 ?_
   rintro _ _ nx3 ⟨⟨ka, rfl, ka0, ka1⟩, ⟨p3, hp3, rfl⟩, hnx3⟩
   try simp only [] at hnx3
   clear hold1
   refine .k 1 ?_
   refine AOPS.old fun hold3 => ?_
   refine .a (near_ac (-1000000) (1000000) (by omega) (by omega) (by omega) l p3 id _ _ dl hl hp3 (by simp (disch := omega) [hH]) hold3) hb164 ?_
   rintro _ _ nx4 ⟨⟨kb, rfl, kb0, kb1⟩, ⟨p4, hp4, rfl⟩, hnx4⟩
   try simp only [] at hnx4
   clear hold3
   refine .k 2 ?_
   refine AOPS.old fun hold6 => ?_
   refine .a (near_ac (-1000000) (1000000) (by omega) (by omega) (by omega) l p4 id _ _ dl hl hp4 (by simp (disch := omega) [hH]) hold6) hb164 ?_
   rintro _ _ nx5 ⟨⟨kc, rfl, kc0, kc1⟩, ⟨p5, hp5, rfl⟩, hnx5⟩
   try simp only [] at hnx5
   clear hold6
   refine .k 1 ?_
   refine AOPS.old fun hold8 => ?_
   refine .a (near_ac (-1000000) (1000000) (by omega) (by omega) (by omega) l p5 id _ _ dl hl hp5 (by simp (disch := omega) [hH]) hold8) hb164 ?_
   rintro _ _ nx6 ⟨⟨kd, rfl, kd0, kd1⟩, ⟨p6, hp6, rfl⟩, hnx6⟩
   try simp only [] at hnx6
   clear hold8
   refine .kf 1 (segOfS_fc ⟨ka, kb⟩ ⟨kc, kd⟩) hb155 ?_
   refine .e ?_
   refine hK7 _ ?_
   refine .q ?_
   refine .ret ?_
   exact hK _ _ _ _ _ trivial ((Fin.mk (r := .agg [.int .i64 ((segS ⟨ka, kb⟩ ⟨kc, kd⟩).1).a.x, .int .i64 ((segS ⟨ka, kb⟩ ⟨kc, kd⟩).1).a.y, .int .i64 ((segS ⟨ka, kb⟩ ⟨kc, kd⟩).1).b.x, .int .i64 ((segS ⟨ka, kb⟩ ⟨kc, kd⟩).1).b.y]) (by simp (disch := omega) [aRes, aResL, aRes1])).restr (fun i => decide (i < nx))) (⟨⟨(segS ⟨ka, kb⟩ ⟨kc, kd⟩).1, rfl, segS_ok ⟨by unfold I64; first | omega | (simp only []; omega), by unfold I64; first | omega | (simp only []; omega)⟩ ⟨by unfold I64; first | omega | (simp only []; omega), by unfold I64; first | omega | (simp only []; omega)⟩⟩, ⟨p6, hp6, by simp (disch := first | omega | (simp; done) | (simp; omega)) [hrestr_in, hrestr_out, hrestr_all hd, hupd_same]⟩, by first | omega | (simp at *; omega)⟩)
  ·try simp only[dc]at h24
   refine .q ?_
   refine .c (t := k == 2) (fun h41 => ?_) (fun h41 => ?_)
   ·try simp only[dc]at h41
    refine .sq fun K10 hK10 => ?_
    refine .region ?_
    refine .k 1 ?_
    refine AOPS.old fun hold1 => ?_
    refine .a (spot_ac l p2 id _ _ dl hl hp2 (by simp (disch := omega) [hH]) hold1) hb130 ?_
    rintro _ _ nx3 ⟨⟨ax, ay, rfl, ax0, ax1, ay0, ay1⟩, ⟨p3, hp3, rfl⟩, hnx3⟩
    try simp only [] at hnx3
    clear hold1
    refine .k 1 ?_
    refine AOPS.old fun hold3 => ?_
    refine .a (spot_ac l p3 id _ _ dl hl hp3 (by simp (disch := omega) [hH]) hold3) hb130 ?_
    rintro _ _ nx4 ⟨⟨cx, cy, rfl, cx0, cx1, cy0, cy1⟩, ⟨p4, hp4, rfl⟩, hnx4⟩
    try simp only [] at hnx4
    clear hold3
    refine .e ?_
    refine hK10 _ ?_
    refine .ret ?_
    exact hK _ _ _ _ _ trivial ((Fin.mk (r := .agg [.int .i64 ((⟨⟨ax, ay⟩, ⟨cx, cy⟩⟩ : Sg)).a.x, .int .i64 ((⟨⟨ax, ay⟩, ⟨cx, cy⟩⟩ : Sg)).a.y, .int .i64 ((⟨⟨ax, ay⟩, ⟨cx, cy⟩⟩ : Sg)).b.x, .int .i64 ((⟨⟨ax, ay⟩, ⟨cx, cy⟩⟩ : Sg)).b.y]) (by simp (disch := omega) [aRes, aResL, aRes1])).restr (fun i => decide (i < nx))) (⟨⟨(⟨⟨ax, ay⟩, ⟨cx, cy⟩⟩ : Sg), rfl, ⟨⟨by unfold I64; first | omega | (simp only []; omega), by unfold I64; first | omega | (simp only []; omega)⟩, ⟨by unfold I64; first | omega | (simp only []; omega), by unfold I64; first | omega | (simp only []; omega)⟩⟩⟩, ⟨p4, hp4, by simp (disch := first | omega | (simp; done) | (simp; omega)) [hrestr_in, hrestr_out, hrestr_all hd, hupd_same]⟩, by first | omega | (simp at *; omega)⟩)
   ·try simp only[dc]at h41
    refine .skip ?_
    refine hK2 _ ?_
    refine .sq fun K11 hK11 => ?_
    refine .region ?_
    refine .k 1 ?_
    refine AOPS.old fun hold1 => ?_
    refine .a (spot_ac l p2 id _ _ dl hl hp2 (by simp (disch := omega) [hH]) hold1) hb130 ?_
    rintro _ _ nx3 ⟨⟨ax, ay, rfl, ax0, ax1, ay0, ay1⟩, ⟨p3, hp3, rfl⟩, hnx3⟩
    try simp only [] at hnx3
    clear hold1
    refine .e ?_
    refine hK11 _ ?_
    refine .sq fun K12 hK12 => ?_
    refine .region ?_
    refine .k 1 ?_
    refine AOPS.old fun hold1 => ?_
    refine .a (spot_ac l p3 id _ _ dl hl hp3 (by simp (disch := omega) [hH]) hold1) hb130 ?_
    rintro _ _ nx4 ⟨⟨cx, cy, rfl, cx0, cx1, cy0, cy1⟩, ⟨p4, hp4, rfl⟩, hnx4⟩
    try simp only [] at hnx4
    clear hold1
    refine .e ?_
    refine hK12 _ ?_
    refine .sq fun K13 hK13 => ?_
    refine .sq fun K14 hK14 => ?_
    by_cases he : (⟨ax, ay⟩ : Sp) = ⟨cx, cy⟩
    ·have hc : decide ((⟨ax, ay⟩ : Sp) = ⟨cx, cy⟩) = true := by simp [he]
     have hq := eqW2 ⟨ax, ay⟩ ⟨cx, cy⟩
     rw [hc] at hq
     simp only [] at hq
     refine .r ?_ (by simp (disch := first|omega|(simp only[ln];omega)) [hq]; rfl)
     refine hK14 _ ?_
     refine .c (fun h54 => ?_) (fun h54 => ?_)
     ·try simp only[dc]at h54
      refine .r ?_
      refine hK13 _ ?_
      refine .sq fun K15 hK15 => ?_
      refine .region ?_
      refine .kf 2 (segOfS_fc ⟨ax, ay⟩ ⟨cx + 1, cy⟩) hb155 ?_
      refine .e ?_
      refine hK15 _ ?_
      refine .q ?_
      refine .ret ?_
      exact hK _ _ _ _ _ trivial ((Fin.mk (r := .agg [.int .i64 ((segS ⟨ax, ay⟩ ⟨cx + 1, cy⟩).1).a.x, .int .i64 ((segS ⟨ax, ay⟩ ⟨cx + 1, cy⟩).1).a.y, .int .i64 ((segS ⟨ax, ay⟩ ⟨cx + 1, cy⟩).1).b.x, .int .i64 ((segS ⟨ax, ay⟩ ⟨cx + 1, cy⟩).1).b.y]) (by simp (disch := omega) [aRes, aResL, aRes1])).restr (fun i => decide (i < nx))) (⟨⟨(segS ⟨ax, ay⟩ ⟨cx + 1, cy⟩).1, rfl, segS_ok ⟨by unfold I64; first | omega | (simp only []; omega), by unfold I64; first | omega | (simp only []; omega)⟩ ⟨by unfold I64; first | omega | (simp only []; omega), by unfold I64; first | omega | (simp only []; omega)⟩⟩, ⟨p4, hp4, by simp (disch := first | omega | (simp; done) | (simp; omega)) [hrestr_in, hrestr_out, hrestr_all hd, hupd_same]⟩, by first | omega | (simp at *; omega)⟩)
     ·simp at h54
    ·have hc : decide ((⟨ax, ay⟩ : Sp) = ⟨cx, cy⟩) = false := by simp [he]
     have hq := eqW2 ⟨ax, ay⟩ ⟨cx, cy⟩
     rw [hc] at hq
     simp only [] at hq
     refine .r ?_ (by simp (disch := first|omega|(simp only[ln];omega)) [hq]; rfl)
     refine hK14 _ ?_
     refine .c (fun h54 => ?_) (fun h54 => ?_)
     ·simp at h54
     ·try simp only[dc]at h54
      refine .skip ?_
      refine hK13 _ ?_
      refine .sq fun K17 hK17 => ?_
      refine .region ?_
      refine .kf 2 (segOfS_fc ⟨ax, ay⟩ ⟨cx, cy⟩) hb155 ?_
      refine .e ?_
      refine hK17 _ ?_
      refine .q ?_
      refine .ret ?_
      exact hK _ _ _ _ _ trivial ((Fin.mk (r := .agg [.int .i64 ((segS ⟨ax, ay⟩ ⟨cx, cy⟩).1).a.x, .int .i64 ((segS ⟨ax, ay⟩ ⟨cx, cy⟩).1).a.y, .int .i64 ((segS ⟨ax, ay⟩ ⟨cx, cy⟩).1).b.x, .int .i64 ((segS ⟨ax, ay⟩ ⟨cx, cy⟩).1).b.y]) (by simp (disch := omega) [aRes, aResL, aRes1])).restr (fun i => decide (i < nx))) (⟨⟨(segS ⟨ax, ay⟩ ⟨cx, cy⟩).1, rfl, segS_ok ⟨by unfold I64; first | omega | (simp only []; omega), by unfold I64; first | omega | (simp only []; omega)⟩ ⟨by unfold I64; first | omega | (simp only []; omega), by unfold I64; first | omega | (simp only []; omega)⟩⟩, ⟨p4, hp4, by simp (disch := first | omega | (simp; done) | (simp; omega)) [hrestr_in, hrestr_out, hrestr_all hd, hupd_same]⟩, by first | omega | (simp at *; omega)⟩)
end

end Go.Proofs.Ytmaebeknmiomnaa

/- Walks: FnOver, walked. -/
namespace Go.Proofs.Ytmaebeknmiomnaa
open Go Go.RowKit
set_option linter.unusedSimpArgs false
set_option linter.unusedVariables false
set_option maxRecDepth 100000
attribute [local simp] szT2 byT2 agT2 unT2 zoT2 szT4 byT4 agT4 unT4 zoT4 szT26 byT26 agT26 flT26 fdT26_0 fdT26_1 fdT26_2 fdT26_3 zoT26 szT28 byT28 agT28 flT28 fdT28_0 fdT28_1 fdT28_2 zoT28 szT67 byT67 agT67 flT67 fdT67_0 fdT67_1 zoT67 szT69 byT69 agT69 flT69 fdT69_0 fdT69_1 zoT69 szT117 byT117 agT117 elT117 unT117 zoT117 szT119 byT119 agT119 flT119 fdT119_0 fdT119_1 zoT119 szT121 byT121 agT121 flT121 fdT121_0 fdT121_1 fdT121_2 zoT121

theorem sideEq {s : Sg} {p : Pt} (h : s.good = true) (hp : p.good = true) : siF s p = sdF s p := by unfold siF; rw [h, hp]; rfl
section
attribute [local simp] idf_numS cells_numS numS_fold idf_numI cells_numI numI_fold Sp.av Sp.cells Sg.av Sg.cells Pt.av Pt.cells spA spC numC
set_option maxHeartbeats 4000000 in
theorem sideOfI_fc (s : Sg) (p : Pt) (gs : s.good = true) (hp : p.ok) : FC Try.prog 121 [s.av, p.av] (.int .i64 (sdF s p)) := by
 obtain ⟨ax0, ax1, ay0, ay1⟩ := Sp.b (good_a gs)
 obtain ⟨bx0, bx1, by0, by1⟩ := Sp.b (good_b gs)
 have pX := W4.bg hp.1
 have pY := W4.bg hp.2.1
 have pW := W4.bg hp.2.2
 have aX : Bg 1 s.a.x := Bg.i64 (by omega) (by omega)
 have aY : Bg 1 s.a.y := Bg.i64 (by omega) (by omega)
 have bX : Bg 1 s.b.x := Bg.i64 (by omega) (by omega)
 have bY : Bg 1 s.b.y := Bg.i64 (by omega) (by omega)
 have dX' : Bg 1 (s.b.x - s.a.x) := Bg.i64 (by omega) (by omega)
 have dY' : Bg 1 (s.b.y - s.a.y) := Bg.i64 (by omega) (by omega)
 refine .b Try.func121 52 (fun nx K hK => ?_) (hi := by simp [idfL, idf, Sp.av, Sp.cells, Sg.av, Sg.cells, Pt.av, Pt.cells])
 refine .q ?_
 refine .sq fun K2 hK2 => ?_
 refine .region ?_
 refine .kf 1 (spot_fc p hp) hb84 ?_
 refine .e ?_
 refine hK2 _ ?_
 refine .sq fun K3 hK3 => ?_
 refine .d 11 ?_
 refine .k 5 (fun fs4 hfs4 => ?_)
 refine .f (whole_fc s.a.x (by omega) (by omega)) hb89 ?_
 refine .k 2 (fun fs5 hfs5 => ?_)
 refine .f (by_fc aX pW (by omega) (by omega)) hb92 ?_
 refine .f (less_fc pX (aX.mul pW) (by omega) (by omega)) hb109 ?_
 refine .k 1 (fun fs6 hfs6 => ?_)
 refine .r 11 (by simp only[ln, hfs4, hfs5, hfs6];omega) ?_
 refine hK3 _ ?_
 refine .sq fun K7 hK7 => ?_
 refine .d 11 ?_
 refine .k 5 (fun fs8 hfs8 => ?_)
 refine .f (whole_fc s.a.y (by omega) (by omega)) hb89 ?_
 refine .k 2 (fun fs9 hfs9 => ?_)
 refine .f (by_fc aY pW (by omega) (by omega)) hb92 ?_
 refine .f (less_fc pY (aY.mul pW) (by omega) (by omega)) hb109 ?_
 refine .k 1 (fun fs10 hfs10 => ?_)
 refine .r 11 (by simp only[ln, hfs8, hfs9, hfs10];omega) ?_
 refine hK7 _ ?_
 refine .sq fun K11 hK11 => ?_
 have bQ := pX.sub (aX.mul pW)
 have bR := pY.sub (aY.mul pW)
 have hs : FC Try.prog 85 [numI ((s.b.x - s.a.x) * (p.y.v - s.a.y * p.w.v) - (s.b.y - s.a.y) * (p.x.v - s.a.x * p.w.v))] (.int .i64 (sdF s p)) := sign_fc (sdZ s p)
 refine .d 22 ?_
 refine .k 7 (fun fs12 hfs12 => ?_)
 refine .f (whole_fc (s.b.x - s.a.x) (by omega) (by omega)) hb89 ?_
 refine .k 1 (fun fs13 hfs13 => ?_)
 refine .f (by_fc dX' bR (by omega) (by omega)) hb92 ?_
 refine .k 7 (fun fs14 hfs14 => ?_)
 refine .f (whole_fc (s.b.y - s.a.y) (by omega) (by omega)) hb89 ?_
 refine .k 1 (fun fs15 hfs15 => ?_)
 refine .f (by_fc dY' bQ (by omega) (by omega)) hb92 ?_
 refine .f (less_fc (dX'.mul bR) (dY'.mul bQ) (by omega) (by omega)) hb109 ?_
 refine .f hs hb85 ?_
 refine .r 22 (by simp only[ln, hfs12, hfs13, hfs14, hfs15];omega) ?_
 refine hK11 _ ?_
 refine .ret ?_
 exact hK _ _ _ _ trivial (Fin.m)
end
section
attribute [local simp] idf_numS cells_numS numS_fold idf_numI cells_numI numI_fold Sp.av Sp.cells Sg.av Sg.cells Pt.av Pt.cells
set_option maxHeartbeats 4000000 in
theorem onSegI_fc (s : Sg) (p : Pt) (gs : s.good = true) (hp : p.ok) : FC Try.prog 127 [s.av, p.av] (.bool (onF s p)) := by
 have c1 := cmpPoints_fc (ptS s.a) p (pt3_ok _ _ _) hp
 have c2 := cmpPoints_fc p (ptS s.b) hp (pt3_ok _ _ _)
 have o1 := pointOfI_fc s.a (good_a gs)
 have o2 := pointOfI_fc s.b (good_b gs)
 refine .b Try.func127 25 (fun nx K hK => ?_) (hi := by simp [idfL, idf, Sp.av, Sp.cells, Sg.av, Sg.cells, Pt.av, Pt.cells])
 refine .q ?_
 refine .sq fun K2 hK2 => ?_
 cases k1 : decide (cmV (ptS s.a) p ≤ 0)
 ·refine .d 20 ?_
  refine .k 2 (fun fs3 hfs3 => ?_) (by simp (disch := first|omega|(simp only[ln];omega)) [runDf.eq_def, runF1, runF2, stepF.eq_def, updo.eq_def, hupo.eq_def, opSto1.eq_def, List.take_succ_cons, List.take_zero, k1]; rfl)
  refine .f o1 hb50 ?_ (ha := by simp (disch := first|omega|(simp only[ln];omega)) [idf_Wd', k1])
  refine .k 1 (fun fs4 hfs4 => ?_) (by simp (disch := first|omega|(simp only[ln];omega)) [runDf.eq_def, runF1, runF2, stepF.eq_def, updo.eq_def, hupo.eq_def, opSto1.eq_def, List.take_succ_cons, List.take_zero, k1]; rfl)
  refine .f c1 hb80 ?_ (ha := by simp (disch := first|omega|(simp only[ln];omega)) [idf_Wd', k1])
  refine .k 15 (fun fs5 hfs5 => ?_) (by simp (disch := first|omega|(simp only[ln];omega)) [runDf.eq_def, runF1, runF2, stepF.eq_def, updo.eq_def, hupo.eq_def, opSto1.eq_def, List.take_succ_cons, List.take_zero, k1]; rfl)
  refine .r 20 (by simp only[ln, hfs3, hfs4, hfs5];omega) ?_ (by simp (disch := first|omega|(simp only[ln];omega)) [runDf.eq_def, runF1, runF2, stepF.eq_def, updo.eq_def, hupo.eq_def, opSto1.eq_def, k1]; rfl)
  refine hK2 _ ?_
  refine .ret ?_
  exact hK _ _ _ _ trivial ((Fin.m).cast (by unfold onF; rw [k1]; rfl))
 ·cases k2 : decide (cmV p (ptS s.b) ≤ 0)
  ·refine .d 20 ?_
   refine .k 2 (fun fs6 hfs6 => ?_) (by simp (disch := first|omega|(simp only[ln];omega)) [runDf.eq_def, runF1, runF2, stepF.eq_def, updo.eq_def, hupo.eq_def, opSto1.eq_def, List.take_succ_cons, List.take_zero, k1, k2]; rfl)
   refine .f o1 hb50 ?_ (ha := by simp (disch := first|omega|(simp only[ln];omega)) [idf_Wd', k1, k2])
   refine .k 1 (fun fs7 hfs7 => ?_) (by simp (disch := first|omega|(simp only[ln];omega)) [runDf.eq_def, runF1, runF2, stepF.eq_def, updo.eq_def, hupo.eq_def, opSto1.eq_def, List.take_succ_cons, List.take_zero, k1, k2]; rfl)
   refine .f c1 hb80 ?_ (ha := by simp (disch := first|omega|(simp only[ln];omega)) [idf_Wd', k1, k2])
   refine .k 5 (fun fs8 hfs8 => ?_) (by simp (disch := first|omega|(simp only[ln];omega)) [runDf.eq_def, runF1, runF2, stepF.eq_def, updo.eq_def, hupo.eq_def, opSto1.eq_def, List.take_succ_cons, List.take_zero, k1, k2]; rfl)
   refine .f o2 hb50 ?_ (ha := by simp (disch := first|omega|(simp only[ln];omega)) [idf_Wd', k1, k2])
   refine .f c2 hb80 ?_ (ha := by simp (disch := first|omega|(simp only[ln];omega)) [idf_Wd', k1, k2])
   refine .k 8 (fun fs9 hfs9 => ?_) (by simp (disch := first|omega|(simp only[ln];omega)) [runDf.eq_def, runF1, runF2, stepF.eq_def, updo.eq_def, hupo.eq_def, opSto1.eq_def, List.take_succ_cons, List.take_zero, k1, k2]; rfl)
   refine .r 20 (by simp only[ln, hfs6, hfs7, hfs8, hfs9];omega) ?_ (by simp (disch := first|omega|(simp only[ln];omega)) [runDf.eq_def, runF1, runF2, stepF.eq_def, updo.eq_def, hupo.eq_def, opSto1.eq_def, k1, k2]; rfl)
   refine hK2 _ ?_
   refine .ret ?_
   exact hK _ _ _ _ trivial ((Fin.m).cast (by unfold onF; rw [k1, k2]; rfl))
  ·refine .d 20 ?_
   refine .k 2 (fun fs10 hfs10 => ?_) (by simp (disch := first|omega|(simp only[ln];omega)) [runDf.eq_def, runF1, runF2, stepF.eq_def, updo.eq_def, hupo.eq_def, opSto1.eq_def, List.take_succ_cons, List.take_zero, k1, k2]; rfl)
   refine .f o1 hb50 ?_ (ha := by simp (disch := first|omega|(simp only[ln];omega)) [idf_Wd', k1, k2])
   refine .k 1 (fun fs11 hfs11 => ?_) (by simp (disch := first|omega|(simp only[ln];omega)) [runDf.eq_def, runF1, runF2, stepF.eq_def, updo.eq_def, hupo.eq_def, opSto1.eq_def, List.take_succ_cons, List.take_zero, k1, k2]; rfl)
   refine .f c1 hb80 ?_ (ha := by simp (disch := first|omega|(simp only[ln];omega)) [idf_Wd', k1, k2])
   refine .k 5 (fun fs12 hfs12 => ?_) (by simp (disch := first|omega|(simp only[ln];omega)) [runDf.eq_def, runF1, runF2, stepF.eq_def, updo.eq_def, hupo.eq_def, opSto1.eq_def, List.take_succ_cons, List.take_zero, k1, k2]; rfl)
   refine .f o2 hb50 ?_ (ha := by simp (disch := first|omega|(simp only[ln];omega)) [idf_Wd', k1, k2])
   refine .f c2 hb80 ?_ (ha := by simp (disch := first|omega|(simp only[ln];omega)) [idf_Wd', k1, k2])
   refine .k 5 (fun fs13 hfs13 => ?_) (by simp (disch := first|omega|(simp only[ln];omega)) [runDf.eq_def, runF1, runF2, stepF.eq_def, updo.eq_def, hupo.eq_def, opSto1.eq_def, List.take_succ_cons, List.take_zero, k1, k2]; rfl)
   refine .f (sideOfI_fc s p gs hp) hb121 ?_ (ha := by simp (disch := first|omega|(simp only[ln];omega)) [idf_Wd', k1, k2])
   refine .k 2 (fun fs14 hfs14 => ?_) (by simp (disch := first|omega|(simp only[ln];omega)) [runDf.eq_def, runF1, runF2, stepF.eq_def, updo.eq_def, hupo.eq_def, opSto1.eq_def, List.take_succ_cons, List.take_zero, k1, k2]; rfl)
   refine .r 20 (by simp only[ln, hfs10, hfs11, hfs12, hfs13, hfs14];omega) ?_ (by simp (disch := first|omega|(simp only[ln];omega)) [runDf.eq_def, runF1, runF2, stepF.eq_def, updo.eq_def, hupo.eq_def, opSto1.eq_def, k1, k2]; rfl)
   refine hK2 _ ?_
   refine .ret ?_
   exact hK _ _ _ _ trivial ((Fin.mk (r := .bool (sdF s p == 0)) (by simp [aRes, aResL, aRes1]; try rfl)).cast (by unfold onF; rw [k1, k2]; rfl))
set_option maxHeartbeats 2000000 in
theorem onSegF_fc (s : Sg) (p : Pt) (hp : p.ok) : FC Try.prog 43 [s.av, p.av] (.bool (onSF s p)) := by
 refine .b Try.func43 16 (fun nx K hK => ?_) (hi := by simp [idfL, idf, Sp.av, Sp.cells, Sg.av, Sg.cells, Pt.av, Pt.cells])
 refine .q ?_
 refine .sq fun K2 hK2 => ?_
 cases gs : s.good
 ·refine .region ?_
  refine .kf 1 (segOkI_fc s) hb48 ?_ (by simp (disch := first|omega|(simp only[ln];omega)) [List.take_succ_cons, List.take_zero, gs]; rfl) (ha := by simp (disch := first|omega|(simp only[ln];omega)) [idf_Wd', gs])
  refine .e ?_ (by simp (disch := first|omega|(simp only[ln];omega)) [gs]; rfl)
  refine hK2 _ ?_
  refine .ret ?_
  exact hK _ _ _ _ trivial ((Fin.m).cast (by unfold onSF; rw [gs]; rfl))
 ·cases gp : p.good
  ·refine .region ?_
   refine .kf 1 (segOkI_fc s) hb48 ?_ (by simp (disch := first|omega|(simp only[ln];omega)) [List.take_succ_cons, List.take_zero, gs, gp]; rfl) (ha := by simp (disch := first|omega|(simp only[ln];omega)) [idf_Wd', gs, gp])
   refine .kf 2 (pointOkI_fc p hp) hb19 ?_ (by simp (disch := first|omega|(simp only[ln];omega)) [List.take_succ_cons, List.take_zero, gs, gp]; rfl) (ha := by simp (disch := first|omega|(simp only[ln];omega)) [idf_Wd', gs, gp])
   refine .e ?_ (by simp (disch := first|omega|(simp only[ln];omega)) [gs, gp]; rfl)
   refine hK2 _ ?_
   refine .ret ?_
   exact hK _ _ _ _ trivial ((Fin.m).cast (by unfold onSF; rw [gs, gp]; rfl))
  ·refine .region ?_
   refine .kf 1 (segOkI_fc s) hb48 ?_ (by simp (disch := first|omega|(simp only[ln];omega)) [List.take_succ_cons, List.take_zero, gs, gp]; rfl) (ha := by simp (disch := first|omega|(simp only[ln];omega)) [idf_Wd', gs, gp])
   refine .kf 2 (pointOkI_fc p hp) hb19 ?_ (by simp (disch := first|omega|(simp only[ln];omega)) [List.take_succ_cons, List.take_zero, gs, gp]; rfl) (ha := by simp (disch := first|omega|(simp only[ln];omega)) [idf_Wd', gs, gp])
   refine .kf 4 (onSegI_fc s p gs hp) hb127 ?_ (by simp (disch := first|omega|(simp only[ln];omega)) [List.take_succ_cons, List.take_zero, gs, gp]; rfl) (ha := by simp (disch := first|omega|(simp only[ln];omega)) [idf_Wd', gs, gp])
   refine .e ?_ (by simp (disch := first|omega|(simp only[ln];omega)) [gs, gp]; rfl)
   refine hK2 _ ?_
   refine .ret ?_
   exact hK _ _ _ _ trivial ((Fin.m).cast (by unfold onSF; rw [gs, gp]; rfl))
set_option maxHeartbeats 2000000 in
theorem sideOf_fc (s : Sg) (p : Pt) (hp : p.ok) : FC Try.prog 44 [s.av, p.av] (.int .i64 (siF s p)) := by
 refine .b Try.func44 16 (fun nx K hK => ?_) (hi := by simp [idfL, idf, Sp.av, Sp.cells, Sg.av, Sg.cells, Pt.av, Pt.cells])
 refine .q ?_
 refine .sq fun K2 hK2 => ?_
 refine .sq fun K3 hK3 => ?_
 cases gs : s.good
 ·refine .region ?_
  refine .kf 1 (segOkI_fc s) hb48 ?_ (by simp (disch := first|omega|(simp only[ln];omega)) [List.take_succ_cons, List.take_zero, gs]; rfl) (ha := by simp (disch := first|omega|(simp only[ln];omega)) [idf_Wd', gs])
  refine .e ?_ (by simp (disch := first|omega|(simp only[ln];omega)) [gs]; rfl)
  refine hK3 _ ?_
  refine .c (fun h12 => ?_) (fun h12 => ?_)
  ·try simp only[dc]at h12
   refine .q ?_
   refine .ret ?_
   exact hK _ _ _ _ trivial ((Fin.m).cast (by unfold siF; simp [*]))
  ·simp at h12
 ·cases gp : p.good
  ·refine .region ?_
   refine .kf 1 (segOkI_fc s) hb48 ?_ (by simp (disch := first|omega|(simp only[ln];omega)) [List.take_succ_cons, List.take_zero, gs, gp]; rfl) (ha := by simp (disch := first|omega|(simp only[ln];omega)) [idf_Wd', gs, gp])
   refine .kf 3 (pointOkI_fc p hp) hb19 ?_ (by simp (disch := first|omega|(simp only[ln];omega)) [List.take_succ_cons, List.take_zero, gs, gp]; rfl) (ha := by simp (disch := first|omega|(simp only[ln];omega)) [idf_Wd', gs, gp])
   refine .e ?_ (by simp (disch := first|omega|(simp only[ln];omega)) [gs, gp]; rfl)
   refine hK3 _ ?_
   refine .c (fun h12 => ?_) (fun h12 => ?_)
   ·try simp only[dc]at h12
    refine .q ?_
    refine .ret ?_
    exact hK _ _ _ _ trivial ((Fin.m).cast (by unfold siF; simp [*]))
   ·simp at h12
  ·refine .region ?_
   refine .kf 1 (segOkI_fc s) hb48 ?_ (by simp (disch := first|omega|(simp only[ln];omega)) [List.take_succ_cons, List.take_zero, gs, gp]; rfl) (ha := by simp (disch := first|omega|(simp only[ln];omega)) [idf_Wd', gs, gp])
   refine .kf 3 (pointOkI_fc p hp) hb19 ?_ (by simp (disch := first|omega|(simp only[ln];omega)) [List.take_succ_cons, List.take_zero, gs, gp]; rfl) (ha := by simp (disch := first|omega|(simp only[ln];omega)) [idf_Wd', gs, gp])
   refine .e ?_ (by simp (disch := first|omega|(simp only[ln];omega)) [gs, gp]; rfl)
   refine hK3 _ ?_
   refine .c (fun h12 => ?_) (fun h12 => ?_)
   ·simp at h12
   ·try simp only[dc]at h12
    refine .skip ?_
    refine hK2 _ ?_
    refine .sq fun K6 hK6 => ?_
    refine .region ?_
    refine .kf 2 (sideOfI_fc s p gs hp) hb121 ?_
    refine .e ?_
    refine hK6 _ ?_
    refine .ret ?_
    exact hK _ _ _ _ trivial ((Fin.m).cast (by rw [sideEq gs gp]))
end
section
attribute [local simp] idf_numS cells_numS numS_fold idf_numI cells_numI numI_fold Sp.av Sp.cells Sg.av Sg.cells Pt.av Pt.cells spA spC numC
end

end Go.Proofs.Ytmaebeknmiomnaa

/- Walks: drawn segments that meet. -/
namespace Go.Proofs.Ytmaebeknmiomnaa
open Go Go.RowKit
set_option linter.unusedSimpArgs false
set_option linter.unusedVariables false
set_option maxRecDepth 100000
attribute [local simp] szT2 byT2 agT2 unT2 zoT2 szT67 byT67 agT67 flT67 fdT67_0 fdT67_1 zoT67 szT69 byT69 agT69 flT69 fdT69_0 fdT69_1 zoT69

theorem hrestr_eq {nx : Nat} {H G : Heap} (hd : ∀ i q, H i = some q → i < nx) (h : ∀ i, i < nx → G i = H i) : hrestr (fun i => decide (i < nx)) G = H := by
  funext i
  simp only [hrestr, decide_eq_true_eq]
  split
  · rename_i k; exact h i k
  · rename_i k
    cases hq : H i with
    | none => rfl
    | some q => exact absurd (hd i q hq) k
theorem half_b {x : Int} (h : I64 x) : ∃ q, x.tdiv 2 = q ∧ -4611686018427387904 ≤ q ∧ q ≤ 4611686018427387903 := by
  obtain ⟨h1, h2⟩ := h
  refine ⟨_, rfl, ?_⟩
  rcases Int.lt_or_le x 0 with h | h
  · have e : x.tdiv 2 = -((-x) / 2) := by rw [← Int.tdiv_eq_ediv_of_nonneg (by omega), Int.neg_tdiv, Int.neg_neg]
    rw [e]; omega
  · rw [Int.tdiv_eq_ediv_of_nonneg h]; omega

section
attribute [local simp] Sp.av Sp.cells Sg.av Sg.cells
set_option maxHeartbeats 8000000 in
theorem drawMeet_ac (l : List Int) (H : Heap) (nx : Nat) (dl : Dig 256 l) (hl : l.length ≤ 1048576) (hd : ∀ i q, H i = some q → i < nx) : ACall Try.prog 69 [Wd .u8 l] H nx (fun r H' nx' => (∃ s t : Sg, s.ok ∧ t.ok ∧ r = .tup [.agg [.int .i64 (s).a.x, .int .i64 (s).a.y, .int .i64 (s).b.x, .int .i64 (s).b.y], .agg [.int .i64 (t).a.x, .int .i64 (t).a.y, .int .i64 (t).b.x, .int .i64 (t).b.y]]) ∧ H' = H ∧ nx ≤ nx') := by
 refine .b Try.func69 71 fun K hK => ?_
 refine .q ?_
 refine .sq fun K2 hK2 => ?_
 refine .region ?_
 refine .k 1 ?_
 refine AOPS.old fun hold1 => ?_
 refine .a (open_ac l _ _) hb76 ?_
 rintro _ _ nx1 ⟨rfl, rfl, rfl⟩
 clear hold1
 obtain ⟨id, hid⟩ : ∃ id, id = nx + 1 + 1 := ⟨_, rfl⟩
 obtain ⟨p, hH⟩ : ∃ p : Nat, p = 0 := ⟨_, rfl⟩
 have hp : p ≤ l.length := by omega
 simp only []
 rw [← hid]
 refine .e ?_
 refine hK2 _ ?_
 refine .sq fun K3 hK3 => ?_
 refine .region ?_
 refine .k 1 ?_
 refine AOPS.old fun hold1 => ?_
 refine .a (seg_ac l p id _ _ dl hl hp (by simp (disch := omega) [hH]) hold1) hb128 ?_
 rintro _ _ nx2 ⟨⟨S, rfl, So⟩, ⟨p2, hp2, rfl⟩, hnx2⟩
 try simp only [] at hnx2
 clear hold1
 refine .e ?_
 refine hK3 _ ?_
 refine .sq fun K4 hK4 => ?_
 refine .region ?_
 refine .k 1 ?_
 refine AOPS.old fun hold1 => ?_
 refine .a (seg_ac l p2 id _ _ dl hl hp2 (by simp (disch := omega) [hH]) hold1) hb128 ?_
 rintro _ _ nx3 ⟨⟨T1, rfl, T1o⟩, ⟨p3, hp3, rfl⟩, hnx3⟩
 try simp only [] at hnx3
 clear hold1
 refine .e ?_
 refine hK4 _ ?_
 refine .sq fun K5 hK5 => ?_
 have J5 : ∀ s : St, (∃ (T : Sg) (a5 a6 : Nat), T.ok ∧ s.env 2 = .ptr nx 0 0 ∧ s.env 3 = .ptr (nx + 1) 0 0 ∧ s.env 5 = .ptr a5 0 0 ∧ s.env 6 = .ptr a6 0 0 ∧ s.heap nx = some (4, [[.int .i64 0, .int .i64 0, .int .i64 0, .int .i64 0]]) ∧ s.heap (nx + 1) = some (4, [[.int .i64 0, .int .i64 0, .int .i64 0, .int .i64 0]]) ∧ s.heap a5 = some (4, [[.int .i64 S.a.x, .int .i64 S.a.y, .int .i64 S.b.x, .int .i64 S.b.y]]) ∧ s.heap a6 = some (4, [[.int .i64 T.a.x, .int .i64 T.a.y, .int .i64 T.b.x, .int .i64 T.b.y]]) ∧ nx + 1 < a5 ∧ nx + 1 < a6 ∧ a5 < s.nx ∧ a6 < s.nx ∧ (∀ i, i < nx → s.heap i = H i) ∧ s.nt = 71) → K5 s := by
  rintro ⟨e, G, mm, nt⟩ ⟨T, a5, a6, To, h2, h3, h5, h6, H2, H3, H5, H6, s5, s6, x5, x6, hG, rfl⟩
  simp only [] at h2 h3 h5 h6 H2 H3 H5 H6 x5 x6 hG
  refine hK5 _ ?_
  refine .sq fun K6 hK6 => ?_
  refine .old fun hold => ?_
  refine .d 2 ?_
  refine .k 1 (fun fs7 hfs7 => ?_) (by simp (disch := first|omega|(simp only[ln];omega)) [runDf.eq_def, runF1, runF2, stepF.eq_def, updo.eq_def, hupo.eq_def, opSto1.eq_def, List.take_succ_cons, List.take_zero, h2, h3, h5, h6, H2, H3, H5, H6]; rfl)
  refine DP.runF1q (by simp (disch := first|omega|(simp only[ln];omega)) [runDf.eq_def, runF1, runF2, stepF.eq_def, updo.eq_def, hupo.eq_def, opSto1.eq_def, h2, h3, h5, h6, H2, H3, H5, H6]; rfl) fun fq8 hfq8 => ?_
  simp [qids, asksB, Op.operands, topId] at hfq8
  simp only [updo]
  refine DQ.sto1 (m := 2) [1] _ (by simp (disch := first|omega|(simp only[ln];omega)) [runDf.eq_def, runF1, runF2, stepF.eq_def, updo.eq_def, hupo.eq_def, opSto1.eq_def, h2, h3, h5, h6, H2, H3, H5, H6]; rfl) rfl (by simp only[ln, hfs7];omega) (by kernel_rfl) (by intro k f hk hex; simp only [List.mem_cons, List.not_mem_nil, or_false] at hex; rcases hex with rfl <;> (simp [List.getElem?_append, hfs7] at hk; subst hk; refine ⟨?_, by first | omega | (simp; done) | (simp; omega)⟩; simp [qids, asksB, Op.operands, Call.operands, topId, numS, numI, Wd, hfq8, h2, h3, h5, h6]; try omega)) ?_
  try simp only []
  refine DQ.sto1 (m := 2) [] _ (by simp (disch := first|omega|(simp only[ln];omega)) [runDf.eq_def, runF1, runF2, stepF.eq_def, updo.eq_def, hupo.eq_def, opSto1.eq_def, h2, h3, h5, h6, H2, H3, H5, H6]; rfl) rfl (by simp only[ln, hfs7];omega) (by kernel_rfl) (by intro k f hk hex; simp only [List.not_mem_nil] at hex) ?_
  try simp only []
  refine hK6 _ ?_
  refine .ret ?_
  exact hK _ _ _ _ _ trivial ((Fin.mk (r := .tup [.agg [.int .i64 (S).a.x, .int .i64 (S).a.y, .int .i64 (S).b.x, .int .i64 (S).b.y], .agg [.int .i64 (T).a.x, .int .i64 (T).a.y, .int .i64 (T).b.x, .int .i64 (T).b.y]]) (by simp (disch := omega) [aRes, aResL, aRes1, h2, h3, H2, H3])).restr (fun i => decide (i < nx))) (⟨⟨S, T, So, To, rfl⟩, hrestr_eq hd (fun i hi => by simp (disch := omega) [hG i hi]), by first | omega | (simp at *; omega)⟩)
 refine .sq fun K9 hK9 => ?_
 refine .region ?_
 refine .k 1 ?_
 refine AOPS.old fun hold1 => ?_
 refine .a (once_ac 4 (by omega) (by omega) l p3 id _ _ dl hl hp3 (by simp (disch := omega) [hH]) hold1) hb78 ?_
 rintro _ _ nx4 ⟨⟨b, rfl⟩, ⟨p4, hp4, rfl⟩, hnx4⟩
 try simp only [] at hnx4
 clear hold1
 refine .nil ?_
 refine hK9 _ ?_
 refine .c (t := b) (fun h14 => ?_) (fun h14 => ?_)
 ·try simp only[dc]at h14
  obtain ⟨qax, hqax, qax0, qax1⟩ := half_b So.1.1
  obtain ⟨qay, hqay, qay0, qay1⟩ := half_b So.1.2
  obtain ⟨qbx, hqbx, qbx0, qbx1⟩ := half_b So.2.1
  obtain ⟨qby, hqby, qby0, qby1⟩ := half_b So.2.2
  refine .region ?_
  refine .kf 40 (segOfS_fc ⟨qax + qbx, qay + qby⟩ ⟨IntKind.i64.wrap (2 * qbx - qax), IntKind.i64.wrap (2 * qby - qay)⟩) hb155 ?_ (by simp (disch := first|omega|(simp only[ln];omega)) [List.take_succ_cons, List.take_zero, hqax, hqay, hqbx, hqby]; rfl) (ha := by simp (disch := first|omega|(simp only[ln];omega)) [idf_Wd', hqax, hqay, hqbx, hqby])
  refine .e ?_ (by simp (disch := first|omega|(simp only[ln];omega)) [hqax, hqay, hqbx, hqby]; rfl)
  refine J5 _ ?_
  exact ⟨(segS ⟨qax + qbx, qay + qby⟩ ⟨IntKind.i64.wrap (2 * qbx - qax), IntKind.i64.wrap (2 * qby - qay)⟩).1, nx2, nx3, segS_ok ⟨by unfold I64; simp only []; omega, by unfold I64; simp only []; omega⟩ ⟨wrap_I64 _, wrap_I64 _⟩, by simp, by simp, by simp, by simp, by simp (disch := omega), by simp (disch := omega), by simp (disch := omega), by simp (disch := omega), by omega, by omega, by first | omega | (simp; omega), by first | omega | (simp; omega), fun i hi => by simp (disch := omega), rfl⟩
 ·try simp only[dc]at h14
  refine .sq fun K10 hK10 => ?_
  refine .region ?_
  refine .k 1 ?_
  refine AOPS.old fun hold1 => ?_
  refine .a (once_ac 5 (by omega) (by omega) l p4 id _ _ dl hl hp4 (by simp (disch := omega) [hH]) hold1) hb78 ?_
  rintro _ _ nx5 ⟨⟨b2, rfl⟩, ⟨p5, hp5, rfl⟩, hnx5⟩
  try simp only [] at hnx5
  clear hold1
  refine .nil ?_
  refine hK10 _ ?_
  refine .c (t := b2) (fun h60 => ?_) (fun h60 => ?_)
  ·try simp only[dc]at h60
   refine .any Try.checked.mixed ?_
   refine AAny.step [0, 2] (by kernel_rfl) (by simp) ?_
   intro i hi o ho
   simp only [List.mem_cons, List.not_mem_nil, or_false] at hi
   rcases hi with rfl | rfl
   ·simp only [List.getElem?_toArray, List.getElem?_cons_zero, List.getElem?_cons_succ, Option.some.injEq] at ho
    subst ho
    refine .e ?_
    refine AAny.step [1, 2] (by kernel_rfl) (by simp) ?_
    intro i hi o ho
    simp only [List.mem_cons, List.not_mem_nil, or_false] at hi
    rcases hi with rfl | rfl
    ·simp only [List.getElem?_toArray, List.getElem?_cons_zero, List.getElem?_cons_succ, Option.some.injEq] at ho
     subst ho
     refine .e ?_
     refine AAny.step [2] (by kernel_rfl) (by simp) ?_
     intro i hi o ho
     simp only [List.mem_cons, List.not_mem_nil, or_false] at hi
     subst hi
     ·simp only [List.getElem?_toArray, List.getElem?_cons_zero, List.getElem?_cons_succ, Option.some.injEq] at ho
      subst ho
      refine .e ?_
      refine AAny.step [3] (by kernel_rfl) (by simp) ?_
      intro i hi o ho
      simp only [List.mem_cons, List.not_mem_nil, or_false] at hi
      subst hi
      ·simp only [List.getElem?_toArray, List.getElem?_cons_zero, List.getElem?_cons_succ, Option.some.injEq] at ho
       subst ho
       refine AOPS.old fun hold3 => ?_
       refine .a (spot_ac l p5 id _ _ dl hl hp5 (by simp (disch := omega) [hH]) hold3) hb130 ?_
       rintro _ _ nx6 ⟨⟨cx, cy, rfl, cx0, cx1, cy0, cy1⟩, ⟨p6, hp6, rfl⟩, hnx6⟩
       try simp only [] at hnx6
       clear hold3
       refine AOPS.nil ?_
       refine AAny.step [4] (by kernel_rfl) (by simp) ?_
       intro i hi o ho
       simp only [List.mem_cons, List.not_mem_nil, or_false] at hi
       subst hi
       ·simp only [List.getElem?_toArray, List.getElem?_cons_zero, List.getElem?_cons_succ, Option.some.injEq] at ho
        subst ho
        refine .f (segOfS_fc ⟨S.b.x, S.b.y⟩ ⟨cx, cy⟩) hb155 ?_
        refine AOPS.nil ?_
        refine AAny.step [5] (by kernel_rfl) (by simp) ?_
        intro i hi o ho
        simp only [List.mem_cons, List.not_mem_nil, or_false] at hi
        subst hi
        ·simp only [List.getElem?_toArray, List.getElem?_cons_zero, List.getElem?_cons_succ, Option.some.injEq] at ho
         subst ho
         refine .e ?_
         refine AAny.step [6, 7] (by kernel_rfl) (by simp) ?_
         intro i hi o ho
         simp only [List.mem_cons, List.not_mem_nil, or_false] at hi
         rcases hi with rfl | rfl
         ·simp only [List.getElem?_toArray, List.getElem?_cons_zero, List.getElem?_cons_succ, Option.some.injEq] at ho
          subst ho
          refine .e ?_
          refine AAny.step [7, 8] (by kernel_rfl) (by simp) ?_
          intro i hi o ho
          simp only [List.mem_cons, List.not_mem_nil, or_false] at hi
          rcases hi with rfl | rfl
          ·simp only [List.getElem?_toArray, List.getElem?_cons_zero, List.getElem?_cons_succ, Option.some.injEq] at ho
           subst ho
           refine .e ?_
           refine AAny.step [8] (by kernel_rfl) (by simp) ?_
           intro i hi o ho
           simp only [List.mem_cons, List.not_mem_nil, or_false] at hi
           subst hi
           ·simp only [List.getElem?_toArray, List.getElem?_cons_zero, List.getElem?_cons_succ, Option.some.injEq] at ho
            subst ho
            refine .e ?_
            refine AAny.done (by kernel_rfl) ?_
            refine J5 _ ?_
            exact ⟨(segS ⟨S.b.x, S.b.y⟩ ⟨cx, cy⟩).1, nx2, nx3, segS_ok So.2 ⟨by unfold I64; simp only []; omega, by unfold I64; simp only []; omega⟩, by simp, by simp, by simp, by simp, by simp (disch := omega), by simp (disch := omega), by simp (disch := omega), by simp (disch := omega), by omega, by omega, by first | omega | (simp; omega), by first | omega | (simp; omega), fun i hi => by simp (disch := omega), rfl⟩
          ·simp only [List.getElem?_toArray, List.getElem?_cons_zero, List.getElem?_cons_succ, Option.some.injEq] at ho
           subst ho
           refine .e ?_
           refine AAny.step [7] (by kernel_rfl) (by simp) ?_
           intro i hi o ho
           simp only [List.mem_cons, List.not_mem_nil, or_false] at hi
           subst hi
           ·simp only [List.getElem?_toArray, List.getElem?_cons_zero, List.getElem?_cons_succ, Option.some.injEq] at ho
            subst ho
            refine .e ?_
            refine AAny.done (by kernel_rfl) ?_
            refine J5 _ ?_
            exact ⟨(segS ⟨S.b.x, S.b.y⟩ ⟨cx, cy⟩).1, nx2, nx3, segS_ok So.2 ⟨by unfold I64; simp only []; omega, by unfold I64; simp only []; omega⟩, by simp, by simp, by simp, by simp, by simp (disch := omega), by simp (disch := omega), by simp (disch := omega), by simp (disch := omega), by omega, by omega, by first | omega | (simp; omega), by first | omega | (simp; omega), fun i hi => by simp (disch := omega), rfl⟩
         ·simp only [List.getElem?_toArray, List.getElem?_cons_zero, List.getElem?_cons_succ, Option.some.injEq] at ho
          subst ho
          refine .e ?_
          refine AAny.step [6] (by kernel_rfl) (by simp) ?_
          intro i hi o ho
          simp only [List.mem_cons, List.not_mem_nil, or_false] at hi
          subst hi
          ·simp only [List.getElem?_toArray, List.getElem?_cons_zero, List.getElem?_cons_succ, Option.some.injEq] at ho
           subst ho
           refine .e ?_
           refine AAny.step [8] (by kernel_rfl) (by simp) ?_
           intro i hi o ho
           simp only [List.mem_cons, List.not_mem_nil, or_false] at hi
           subst hi
           ·simp only [List.getElem?_toArray, List.getElem?_cons_zero, List.getElem?_cons_succ, Option.some.injEq] at ho
            subst ho
            refine .e ?_
            refine AAny.done (by kernel_rfl) ?_
            refine J5 _ ?_
            exact ⟨(segS ⟨S.b.x, S.b.y⟩ ⟨cx, cy⟩).1, nx2, nx3, segS_ok So.2 ⟨by unfold I64; simp only []; omega, by unfold I64; simp only []; omega⟩, by simp, by simp, by simp, by simp, by simp (disch := omega), by simp (disch := omega), by simp (disch := omega), by simp (disch := omega), by omega, by omega, by first | omega | (simp; omega), by first | omega | (simp; omega), fun i hi => by simp (disch := omega), rfl⟩
    ·simp only [List.getElem?_toArray, List.getElem?_cons_zero, List.getElem?_cons_succ, Option.some.injEq] at ho
     subst ho
     refine .e ?_
     refine AAny.step [1, 3] (by kernel_rfl) (by simp) ?_
     intro i hi o ho
     simp only [List.mem_cons, List.not_mem_nil, or_false] at hi
     rcases hi with rfl | rfl
     ·simp only [List.getElem?_toArray, List.getElem?_cons_zero, List.getElem?_cons_succ, Option.some.injEq] at ho
      subst ho
      refine .e ?_
      refine AAny.step [3] (by kernel_rfl) (by simp) ?_
      intro i hi o ho
      simp only [List.mem_cons, List.not_mem_nil, or_false] at hi
      subst hi
      ·simp only [List.getElem?_toArray, List.getElem?_cons_zero, List.getElem?_cons_succ, Option.some.injEq] at ho
       subst ho
       refine AOPS.old fun hold3 => ?_
       refine .a (spot_ac l p5 id _ _ dl hl hp5 (by simp (disch := omega) [hH]) hold3) hb130 ?_
       rintro _ _ nx6 ⟨⟨cx, cy, rfl, cx0, cx1, cy0, cy1⟩, ⟨p6, hp6, rfl⟩, hnx6⟩
       try simp only [] at hnx6
       clear hold3
       refine AOPS.nil ?_
       refine AAny.step [4] (by kernel_rfl) (by simp) ?_
       intro i hi o ho
       simp only [List.mem_cons, List.not_mem_nil, or_false] at hi
       subst hi
       ·simp only [List.getElem?_toArray, List.getElem?_cons_zero, List.getElem?_cons_succ, Option.some.injEq] at ho
        subst ho
        refine .f (segOfS_fc ⟨S.b.x, S.b.y⟩ ⟨cx, cy⟩) hb155 ?_
        refine AOPS.nil ?_
        refine AAny.step [5] (by kernel_rfl) (by simp) ?_
        intro i hi o ho
        simp only [List.mem_cons, List.not_mem_nil, or_false] at hi
        subst hi
        ·simp only [List.getElem?_toArray, List.getElem?_cons_zero, List.getElem?_cons_succ, Option.some.injEq] at ho
         subst ho
         refine .e ?_
         refine AAny.step [6, 7] (by kernel_rfl) (by simp) ?_
         intro i hi o ho
         simp only [List.mem_cons, List.not_mem_nil, or_false] at hi
         rcases hi with rfl | rfl
         ·simp only [List.getElem?_toArray, List.getElem?_cons_zero, List.getElem?_cons_succ, Option.some.injEq] at ho
          subst ho
          refine .e ?_
          refine AAny.step [7, 8] (by kernel_rfl) (by simp) ?_
          intro i hi o ho
          simp only [List.mem_cons, List.not_mem_nil, or_false] at hi
          rcases hi with rfl | rfl
          ·simp only [List.getElem?_toArray, List.getElem?_cons_zero, List.getElem?_cons_succ, Option.some.injEq] at ho
           subst ho
           refine .e ?_
           refine AAny.step [8] (by kernel_rfl) (by simp) ?_
           intro i hi o ho
           simp only [List.mem_cons, List.not_mem_nil, or_false] at hi
           subst hi
           ·simp only [List.getElem?_toArray, List.getElem?_cons_zero, List.getElem?_cons_succ, Option.some.injEq] at ho
            subst ho
            refine .e ?_
            refine AAny.done (by kernel_rfl) ?_
            refine J5 _ ?_
            exact ⟨(segS ⟨S.b.x, S.b.y⟩ ⟨cx, cy⟩).1, nx2, nx3, segS_ok So.2 ⟨by unfold I64; simp only []; omega, by unfold I64; simp only []; omega⟩, by simp, by simp, by simp, by simp, by simp (disch := omega), by simp (disch := omega), by simp (disch := omega), by simp (disch := omega), by omega, by omega, by first | omega | (simp; omega), by first | omega | (simp; omega), fun i hi => by simp (disch := omega), rfl⟩
          ·simp only [List.getElem?_toArray, List.getElem?_cons_zero, List.getElem?_cons_succ, Option.some.injEq] at ho
           subst ho
           refine .e ?_
           refine AAny.step [7] (by kernel_rfl) (by simp) ?_
           intro i hi o ho
           simp only [List.mem_cons, List.not_mem_nil, or_false] at hi
           subst hi
           ·simp only [List.getElem?_toArray, List.getElem?_cons_zero, List.getElem?_cons_succ, Option.some.injEq] at ho
            subst ho
            refine .e ?_
            refine AAny.done (by kernel_rfl) ?_
            refine J5 _ ?_
            exact ⟨(segS ⟨S.b.x, S.b.y⟩ ⟨cx, cy⟩).1, nx2, nx3, segS_ok So.2 ⟨by unfold I64; simp only []; omega, by unfold I64; simp only []; omega⟩, by simp, by simp, by simp, by simp, by simp (disch := omega), by simp (disch := omega), by simp (disch := omega), by simp (disch := omega), by omega, by omega, by first | omega | (simp; omega), by first | omega | (simp; omega), fun i hi => by simp (disch := omega), rfl⟩
         ·simp only [List.getElem?_toArray, List.getElem?_cons_zero, List.getElem?_cons_succ, Option.some.injEq] at ho
          subst ho
          refine .e ?_
          refine AAny.step [6] (by kernel_rfl) (by simp) ?_
          intro i hi o ho
          simp only [List.mem_cons, List.not_mem_nil, or_false] at hi
          subst hi
          ·simp only [List.getElem?_toArray, List.getElem?_cons_zero, List.getElem?_cons_succ, Option.some.injEq] at ho
           subst ho
           refine .e ?_
           refine AAny.step [8] (by kernel_rfl) (by simp) ?_
           intro i hi o ho
           simp only [List.mem_cons, List.not_mem_nil, or_false] at hi
           subst hi
           ·simp only [List.getElem?_toArray, List.getElem?_cons_zero, List.getElem?_cons_succ, Option.some.injEq] at ho
            subst ho
            refine .e ?_
            refine AAny.done (by kernel_rfl) ?_
            refine J5 _ ?_
            exact ⟨(segS ⟨S.b.x, S.b.y⟩ ⟨cx, cy⟩).1, nx2, nx3, segS_ok So.2 ⟨by unfold I64; simp only []; omega, by unfold I64; simp only []; omega⟩, by simp, by simp, by simp, by simp, by simp (disch := omega), by simp (disch := omega), by simp (disch := omega), by simp (disch := omega), by omega, by omega, by first | omega | (simp; omega), by first | omega | (simp; omega), fun i hi => by simp (disch := omega), rfl⟩
     ·simp only [List.getElem?_toArray, List.getElem?_cons_zero, List.getElem?_cons_succ, Option.some.injEq] at ho
      subst ho
      refine AOPS.old fun hold3 => ?_
      refine .a (spot_ac l p5 id _ _ dl hl hp5 (by simp (disch := omega) [hH]) hold3) hb130 ?_
      rintro _ _ nx6 ⟨⟨cx, cy, rfl, cx0, cx1, cy0, cy1⟩, ⟨p6, hp6, rfl⟩, hnx6⟩
      try simp only [] at hnx6
      clear hold3
      refine AOPS.nil ?_
      refine AAny.step [1] (by kernel_rfl) (by simp) ?_
      intro i hi o ho
      simp only [List.mem_cons, List.not_mem_nil, or_false] at hi
      subst hi
      ·simp only [List.getElem?_toArray, List.getElem?_cons_zero, List.getElem?_cons_succ, Option.some.injEq] at ho
       subst ho
       refine .e ?_
       refine AAny.step [4] (by kernel_rfl) (by simp) ?_
       intro i hi o ho
       simp only [List.mem_cons, List.not_mem_nil, or_false] at hi
       subst hi
       ·simp only [List.getElem?_toArray, List.getElem?_cons_zero, List.getElem?_cons_succ, Option.some.injEq] at ho
        subst ho
        refine .f (segOfS_fc ⟨S.b.x, S.b.y⟩ ⟨cx, cy⟩) hb155 ?_
        refine AOPS.nil ?_
        refine AAny.step [5] (by kernel_rfl) (by simp) ?_
        intro i hi o ho
        simp only [List.mem_cons, List.not_mem_nil, or_false] at hi
        subst hi
        ·simp only [List.getElem?_toArray, List.getElem?_cons_zero, List.getElem?_cons_succ, Option.some.injEq] at ho
         subst ho
         refine .e ?_
         refine AAny.step [6, 7] (by kernel_rfl) (by simp) ?_
         intro i hi o ho
         simp only [List.mem_cons, List.not_mem_nil, or_false] at hi
         rcases hi with rfl | rfl
         ·simp only [List.getElem?_toArray, List.getElem?_cons_zero, List.getElem?_cons_succ, Option.some.injEq] at ho
          subst ho
          refine .e ?_
          refine AAny.step [7, 8] (by kernel_rfl) (by simp) ?_
          intro i hi o ho
          simp only [List.mem_cons, List.not_mem_nil, or_false] at hi
          rcases hi with rfl | rfl
          ·simp only [List.getElem?_toArray, List.getElem?_cons_zero, List.getElem?_cons_succ, Option.some.injEq] at ho
           subst ho
           refine .e ?_
           refine AAny.step [8] (by kernel_rfl) (by simp) ?_
           intro i hi o ho
           simp only [List.mem_cons, List.not_mem_nil, or_false] at hi
           subst hi
           ·simp only [List.getElem?_toArray, List.getElem?_cons_zero, List.getElem?_cons_succ, Option.some.injEq] at ho
            subst ho
            refine .e ?_
            refine AAny.done (by kernel_rfl) ?_
            refine J5 _ ?_
            exact ⟨(segS ⟨S.b.x, S.b.y⟩ ⟨cx, cy⟩).1, nx2, nx3, segS_ok So.2 ⟨by unfold I64; simp only []; omega, by unfold I64; simp only []; omega⟩, by simp, by simp, by simp, by simp, by simp (disch := omega), by simp (disch := omega), by simp (disch := omega), by simp (disch := omega), by omega, by omega, by first | omega | (simp; omega), by first | omega | (simp; omega), fun i hi => by simp (disch := omega), rfl⟩
          ·simp only [List.getElem?_toArray, List.getElem?_cons_zero, List.getElem?_cons_succ, Option.some.injEq] at ho
           subst ho
           refine .e ?_
           refine AAny.step [7] (by kernel_rfl) (by simp) ?_
           intro i hi o ho
           simp only [List.mem_cons, List.not_mem_nil, or_false] at hi
           subst hi
           ·simp only [List.getElem?_toArray, List.getElem?_cons_zero, List.getElem?_cons_succ, Option.some.injEq] at ho
            subst ho
            refine .e ?_
            refine AAny.done (by kernel_rfl) ?_
            refine J5 _ ?_
            exact ⟨(segS ⟨S.b.x, S.b.y⟩ ⟨cx, cy⟩).1, nx2, nx3, segS_ok So.2 ⟨by unfold I64; simp only []; omega, by unfold I64; simp only []; omega⟩, by simp, by simp, by simp, by simp, by simp (disch := omega), by simp (disch := omega), by simp (disch := omega), by simp (disch := omega), by omega, by omega, by first | omega | (simp; omega), by first | omega | (simp; omega), fun i hi => by simp (disch := omega), rfl⟩
         ·simp only [List.getElem?_toArray, List.getElem?_cons_zero, List.getElem?_cons_succ, Option.some.injEq] at ho
          subst ho
          refine .e ?_
          refine AAny.step [6] (by kernel_rfl) (by simp) ?_
          intro i hi o ho
          simp only [List.mem_cons, List.not_mem_nil, or_false] at hi
          subst hi
          ·simp only [List.getElem?_toArray, List.getElem?_cons_zero, List.getElem?_cons_succ, Option.some.injEq] at ho
           subst ho
           refine .e ?_
           refine AAny.step [8] (by kernel_rfl) (by simp) ?_
           intro i hi o ho
           simp only [List.mem_cons, List.not_mem_nil, or_false] at hi
           subst hi
           ·simp only [List.getElem?_toArray, List.getElem?_cons_zero, List.getElem?_cons_succ, Option.some.injEq] at ho
            subst ho
            refine .e ?_
            refine AAny.done (by kernel_rfl) ?_
            refine J5 _ ?_
            exact ⟨(segS ⟨S.b.x, S.b.y⟩ ⟨cx, cy⟩).1, nx2, nx3, segS_ok So.2 ⟨by unfold I64; simp only []; omega, by unfold I64; simp only []; omega⟩, by simp, by simp, by simp, by simp, by simp (disch := omega), by simp (disch := omega), by simp (disch := omega), by simp (disch := omega), by omega, by omega, by first | omega | (simp; omega), by first | omega | (simp; omega), fun i hi => by simp (disch := omega), rfl⟩
   ·simp only [List.getElem?_toArray, List.getElem?_cons_zero, List.getElem?_cons_succ, Option.some.injEq] at ho
    subst ho
    refine .e ?_
    refine AAny.step [0, 3] (by kernel_rfl) (by simp) ?_
    intro i hi o ho
    simp only [List.mem_cons, List.not_mem_nil, or_false] at hi
    rcases hi with rfl | rfl
    ·simp only [List.getElem?_toArray, List.getElem?_cons_zero, List.getElem?_cons_succ, Option.some.injEq] at ho
     subst ho
     refine .e ?_
     refine AAny.step [1, 3] (by kernel_rfl) (by simp) ?_
     intro i hi o ho
     simp only [List.mem_cons, List.not_mem_nil, or_false] at hi
     rcases hi with rfl | rfl
     ·simp only [List.getElem?_toArray, List.getElem?_cons_zero, List.getElem?_cons_succ, Option.some.injEq] at ho
      subst ho
      refine .e ?_
      refine AAny.step [3] (by kernel_rfl) (by simp) ?_
      intro i hi o ho
      simp only [List.mem_cons, List.not_mem_nil, or_false] at hi
      subst hi
      ·simp only [List.getElem?_toArray, List.getElem?_cons_zero, List.getElem?_cons_succ, Option.some.injEq] at ho
       subst ho
       refine AOPS.old fun hold3 => ?_
       refine .a (spot_ac l p5 id _ _ dl hl hp5 (by simp (disch := omega) [hH]) hold3) hb130 ?_
       rintro _ _ nx6 ⟨⟨cx, cy, rfl, cx0, cx1, cy0, cy1⟩, ⟨p6, hp6, rfl⟩, hnx6⟩
       try simp only [] at hnx6
       clear hold3
       refine AOPS.nil ?_
       refine AAny.step [4] (by kernel_rfl) (by simp) ?_
       intro i hi o ho
       simp only [List.mem_cons, List.not_mem_nil, or_false] at hi
       subst hi
       ·simp only [List.getElem?_toArray, List.getElem?_cons_zero, List.getElem?_cons_succ, Option.some.injEq] at ho
        subst ho
        refine .f (segOfS_fc ⟨S.b.x, S.b.y⟩ ⟨cx, cy⟩) hb155 ?_
        refine AOPS.nil ?_
        refine AAny.step [5] (by kernel_rfl) (by simp) ?_
        intro i hi o ho
        simp only [List.mem_cons, List.not_mem_nil, or_false] at hi
        subst hi
        ·simp only [List.getElem?_toArray, List.getElem?_cons_zero, List.getElem?_cons_succ, Option.some.injEq] at ho
         subst ho
         refine .e ?_
         refine AAny.step [6, 7] (by kernel_rfl) (by simp) ?_
         intro i hi o ho
         simp only [List.mem_cons, List.not_mem_nil, or_false] at hi
         rcases hi with rfl | rfl
         ·simp only [List.getElem?_toArray, List.getElem?_cons_zero, List.getElem?_cons_succ, Option.some.injEq] at ho
          subst ho
          refine .e ?_
          refine AAny.step [7, 8] (by kernel_rfl) (by simp) ?_
          intro i hi o ho
          simp only [List.mem_cons, List.not_mem_nil, or_false] at hi
          rcases hi with rfl | rfl
          ·simp only [List.getElem?_toArray, List.getElem?_cons_zero, List.getElem?_cons_succ, Option.some.injEq] at ho
           subst ho
           refine .e ?_
           refine AAny.step [8] (by kernel_rfl) (by simp) ?_
           intro i hi o ho
           simp only [List.mem_cons, List.not_mem_nil, or_false] at hi
           subst hi
           ·simp only [List.getElem?_toArray, List.getElem?_cons_zero, List.getElem?_cons_succ, Option.some.injEq] at ho
            subst ho
            refine .e ?_
            refine AAny.done (by kernel_rfl) ?_
            refine J5 _ ?_
            exact ⟨(segS ⟨S.b.x, S.b.y⟩ ⟨cx, cy⟩).1, nx2, nx3, segS_ok So.2 ⟨by unfold I64; simp only []; omega, by unfold I64; simp only []; omega⟩, by simp, by simp, by simp, by simp, by simp (disch := omega), by simp (disch := omega), by simp (disch := omega), by simp (disch := omega), by omega, by omega, by first | omega | (simp; omega), by first | omega | (simp; omega), fun i hi => by simp (disch := omega), rfl⟩
          ·simp only [List.getElem?_toArray, List.getElem?_cons_zero, List.getElem?_cons_succ, Option.some.injEq] at ho
           subst ho
           refine .e ?_
           refine AAny.step [7] (by kernel_rfl) (by simp) ?_
           intro i hi o ho
           simp only [List.mem_cons, List.not_mem_nil, or_false] at hi
           subst hi
           ·simp only [List.getElem?_toArray, List.getElem?_cons_zero, List.getElem?_cons_succ, Option.some.injEq] at ho
            subst ho
            refine .e ?_
            refine AAny.done (by kernel_rfl) ?_
            refine J5 _ ?_
            exact ⟨(segS ⟨S.b.x, S.b.y⟩ ⟨cx, cy⟩).1, nx2, nx3, segS_ok So.2 ⟨by unfold I64; simp only []; omega, by unfold I64; simp only []; omega⟩, by simp, by simp, by simp, by simp, by simp (disch := omega), by simp (disch := omega), by simp (disch := omega), by simp (disch := omega), by omega, by omega, by first | omega | (simp; omega), by first | omega | (simp; omega), fun i hi => by simp (disch := omega), rfl⟩
         ·simp only [List.getElem?_toArray, List.getElem?_cons_zero, List.getElem?_cons_succ, Option.some.injEq] at ho
          subst ho
          refine .e ?_
          refine AAny.step [6] (by kernel_rfl) (by simp) ?_
          intro i hi o ho
          simp only [List.mem_cons, List.not_mem_nil, or_false] at hi
          subst hi
          ·simp only [List.getElem?_toArray, List.getElem?_cons_zero, List.getElem?_cons_succ, Option.some.injEq] at ho
           subst ho
           refine .e ?_
           refine AAny.step [8] (by kernel_rfl) (by simp) ?_
           intro i hi o ho
           simp only [List.mem_cons, List.not_mem_nil, or_false] at hi
           subst hi
           ·simp only [List.getElem?_toArray, List.getElem?_cons_zero, List.getElem?_cons_succ, Option.some.injEq] at ho
            subst ho
            refine .e ?_
            refine AAny.done (by kernel_rfl) ?_
            refine J5 _ ?_
            exact ⟨(segS ⟨S.b.x, S.b.y⟩ ⟨cx, cy⟩).1, nx2, nx3, segS_ok So.2 ⟨by unfold I64; simp only []; omega, by unfold I64; simp only []; omega⟩, by simp, by simp, by simp, by simp, by simp (disch := omega), by simp (disch := omega), by simp (disch := omega), by simp (disch := omega), by omega, by omega, by first | omega | (simp; omega), by first | omega | (simp; omega), fun i hi => by simp (disch := omega), rfl⟩
     ·simp only [List.getElem?_toArray, List.getElem?_cons_zero, List.getElem?_cons_succ, Option.some.injEq] at ho
      subst ho
      refine AOPS.old fun hold3 => ?_
      refine .a (spot_ac l p5 id _ _ dl hl hp5 (by simp (disch := omega) [hH]) hold3) hb130 ?_
      rintro _ _ nx6 ⟨⟨cx, cy, rfl, cx0, cx1, cy0, cy1⟩, ⟨p6, hp6, rfl⟩, hnx6⟩
      try simp only [] at hnx6
      clear hold3
      refine AOPS.nil ?_
      refine AAny.step [1] (by kernel_rfl) (by simp) ?_
      intro i hi o ho
      simp only [List.mem_cons, List.not_mem_nil, or_false] at hi
      subst hi
      ·simp only [List.getElem?_toArray, List.getElem?_cons_zero, List.getElem?_cons_succ, Option.some.injEq] at ho
       subst ho
       refine .e ?_
       refine AAny.step [4] (by kernel_rfl) (by simp) ?_
       intro i hi o ho
       simp only [List.mem_cons, List.not_mem_nil, or_false] at hi
       subst hi
       ·simp only [List.getElem?_toArray, List.getElem?_cons_zero, List.getElem?_cons_succ, Option.some.injEq] at ho
        subst ho
        refine .f (segOfS_fc ⟨S.b.x, S.b.y⟩ ⟨cx, cy⟩) hb155 ?_
        refine AOPS.nil ?_
        refine AAny.step [5] (by kernel_rfl) (by simp) ?_
        intro i hi o ho
        simp only [List.mem_cons, List.not_mem_nil, or_false] at hi
        subst hi
        ·simp only [List.getElem?_toArray, List.getElem?_cons_zero, List.getElem?_cons_succ, Option.some.injEq] at ho
         subst ho
         refine .e ?_
         refine AAny.step [6, 7] (by kernel_rfl) (by simp) ?_
         intro i hi o ho
         simp only [List.mem_cons, List.not_mem_nil, or_false] at hi
         rcases hi with rfl | rfl
         ·simp only [List.getElem?_toArray, List.getElem?_cons_zero, List.getElem?_cons_succ, Option.some.injEq] at ho
          subst ho
          refine .e ?_
          refine AAny.step [7, 8] (by kernel_rfl) (by simp) ?_
          intro i hi o ho
          simp only [List.mem_cons, List.not_mem_nil, or_false] at hi
          rcases hi with rfl | rfl
          ·simp only [List.getElem?_toArray, List.getElem?_cons_zero, List.getElem?_cons_succ, Option.some.injEq] at ho
           subst ho
           refine .e ?_
           refine AAny.step [8] (by kernel_rfl) (by simp) ?_
           intro i hi o ho
           simp only [List.mem_cons, List.not_mem_nil, or_false] at hi
           subst hi
           ·simp only [List.getElem?_toArray, List.getElem?_cons_zero, List.getElem?_cons_succ, Option.some.injEq] at ho
            subst ho
            refine .e ?_
            refine AAny.done (by kernel_rfl) ?_
            refine J5 _ ?_
            exact ⟨(segS ⟨S.b.x, S.b.y⟩ ⟨cx, cy⟩).1, nx2, nx3, segS_ok So.2 ⟨by unfold I64; simp only []; omega, by unfold I64; simp only []; omega⟩, by simp, by simp, by simp, by simp, by simp (disch := omega), by simp (disch := omega), by simp (disch := omega), by simp (disch := omega), by omega, by omega, by first | omega | (simp; omega), by first | omega | (simp; omega), fun i hi => by simp (disch := omega), rfl⟩
          ·simp only [List.getElem?_toArray, List.getElem?_cons_zero, List.getElem?_cons_succ, Option.some.injEq] at ho
           subst ho
           refine .e ?_
           refine AAny.step [7] (by kernel_rfl) (by simp) ?_
           intro i hi o ho
           simp only [List.mem_cons, List.not_mem_nil, or_false] at hi
           subst hi
           ·simp only [List.getElem?_toArray, List.getElem?_cons_zero, List.getElem?_cons_succ, Option.some.injEq] at ho
            subst ho
            refine .e ?_
            refine AAny.done (by kernel_rfl) ?_
            refine J5 _ ?_
            exact ⟨(segS ⟨S.b.x, S.b.y⟩ ⟨cx, cy⟩).1, nx2, nx3, segS_ok So.2 ⟨by unfold I64; simp only []; omega, by unfold I64; simp only []; omega⟩, by simp, by simp, by simp, by simp, by simp (disch := omega), by simp (disch := omega), by simp (disch := omega), by simp (disch := omega), by omega, by omega, by first | omega | (simp; omega), by first | omega | (simp; omega), fun i hi => by simp (disch := omega), rfl⟩
         ·simp only [List.getElem?_toArray, List.getElem?_cons_zero, List.getElem?_cons_succ, Option.some.injEq] at ho
          subst ho
          refine .e ?_
          refine AAny.step [6] (by kernel_rfl) (by simp) ?_
          intro i hi o ho
          simp only [List.mem_cons, List.not_mem_nil, or_false] at hi
          subst hi
          ·simp only [List.getElem?_toArray, List.getElem?_cons_zero, List.getElem?_cons_succ, Option.some.injEq] at ho
           subst ho
           refine .e ?_
           refine AAny.step [8] (by kernel_rfl) (by simp) ?_
           intro i hi o ho
           simp only [List.mem_cons, List.not_mem_nil, or_false] at hi
           subst hi
           ·simp only [List.getElem?_toArray, List.getElem?_cons_zero, List.getElem?_cons_succ, Option.some.injEq] at ho
            subst ho
            refine .e ?_
            refine AAny.done (by kernel_rfl) ?_
            refine J5 _ ?_
            exact ⟨(segS ⟨S.b.x, S.b.y⟩ ⟨cx, cy⟩).1, nx2, nx3, segS_ok So.2 ⟨by unfold I64; simp only []; omega, by unfold I64; simp only []; omega⟩, by simp, by simp, by simp, by simp, by simp (disch := omega), by simp (disch := omega), by simp (disch := omega), by simp (disch := omega), by omega, by omega, by first | omega | (simp; omega), by first | omega | (simp; omega), fun i hi => by simp (disch := omega), rfl⟩
    ·simp only [List.getElem?_toArray, List.getElem?_cons_zero, List.getElem?_cons_succ, Option.some.injEq] at ho
     subst ho
     refine AOPS.old fun hold3 => ?_
     refine .a (spot_ac l p5 id _ _ dl hl hp5 (by simp (disch := omega) [hH]) hold3) hb130 ?_
     rintro _ _ nx6 ⟨⟨cx, cy, rfl, cx0, cx1, cy0, cy1⟩, ⟨p6, hp6, rfl⟩, hnx6⟩
     try simp only [] at hnx6
     clear hold3
     refine AOPS.nil ?_
     refine AAny.step [0] (by kernel_rfl) (by simp) ?_
     intro i hi o ho
     simp only [List.mem_cons, List.not_mem_nil, or_false] at hi
     subst hi
     ·simp only [List.getElem?_toArray, List.getElem?_cons_zero, List.getElem?_cons_succ, Option.some.injEq] at ho
      subst ho
      refine .e ?_
      refine AAny.step [1] (by kernel_rfl) (by simp) ?_
      intro i hi o ho
      simp only [List.mem_cons, List.not_mem_nil, or_false] at hi
      subst hi
      ·simp only [List.getElem?_toArray, List.getElem?_cons_zero, List.getElem?_cons_succ, Option.some.injEq] at ho
       subst ho
       refine .e ?_
       refine AAny.step [4] (by kernel_rfl) (by simp) ?_
       intro i hi o ho
       simp only [List.mem_cons, List.not_mem_nil, or_false] at hi
       subst hi
       ·simp only [List.getElem?_toArray, List.getElem?_cons_zero, List.getElem?_cons_succ, Option.some.injEq] at ho
        subst ho
        refine .f (segOfS_fc ⟨S.b.x, S.b.y⟩ ⟨cx, cy⟩) hb155 ?_
        refine AOPS.nil ?_
        refine AAny.step [5] (by kernel_rfl) (by simp) ?_
        intro i hi o ho
        simp only [List.mem_cons, List.not_mem_nil, or_false] at hi
        subst hi
        ·simp only [List.getElem?_toArray, List.getElem?_cons_zero, List.getElem?_cons_succ, Option.some.injEq] at ho
         subst ho
         refine .e ?_
         refine AAny.step [6, 7] (by kernel_rfl) (by simp) ?_
         intro i hi o ho
         simp only [List.mem_cons, List.not_mem_nil, or_false] at hi
         rcases hi with rfl | rfl
         ·simp only [List.getElem?_toArray, List.getElem?_cons_zero, List.getElem?_cons_succ, Option.some.injEq] at ho
          subst ho
          refine .e ?_
          refine AAny.step [7, 8] (by kernel_rfl) (by simp) ?_
          intro i hi o ho
          simp only [List.mem_cons, List.not_mem_nil, or_false] at hi
          rcases hi with rfl | rfl
          ·simp only [List.getElem?_toArray, List.getElem?_cons_zero, List.getElem?_cons_succ, Option.some.injEq] at ho
           subst ho
           refine .e ?_
           refine AAny.step [8] (by kernel_rfl) (by simp) ?_
           intro i hi o ho
           simp only [List.mem_cons, List.not_mem_nil, or_false] at hi
           subst hi
           ·simp only [List.getElem?_toArray, List.getElem?_cons_zero, List.getElem?_cons_succ, Option.some.injEq] at ho
            subst ho
            refine .e ?_
            refine AAny.done (by kernel_rfl) ?_
            refine J5 _ ?_
            exact ⟨(segS ⟨S.b.x, S.b.y⟩ ⟨cx, cy⟩).1, nx2, nx3, segS_ok So.2 ⟨by unfold I64; simp only []; omega, by unfold I64; simp only []; omega⟩, by simp, by simp, by simp, by simp, by simp (disch := omega), by simp (disch := omega), by simp (disch := omega), by simp (disch := omega), by omega, by omega, by first | omega | (simp; omega), by first | omega | (simp; omega), fun i hi => by simp (disch := omega), rfl⟩
          ·simp only [List.getElem?_toArray, List.getElem?_cons_zero, List.getElem?_cons_succ, Option.some.injEq] at ho
           subst ho
           refine .e ?_
           refine AAny.step [7] (by kernel_rfl) (by simp) ?_
           intro i hi o ho
           simp only [List.mem_cons, List.not_mem_nil, or_false] at hi
           subst hi
           ·simp only [List.getElem?_toArray, List.getElem?_cons_zero, List.getElem?_cons_succ, Option.some.injEq] at ho
            subst ho
            refine .e ?_
            refine AAny.done (by kernel_rfl) ?_
            refine J5 _ ?_
            exact ⟨(segS ⟨S.b.x, S.b.y⟩ ⟨cx, cy⟩).1, nx2, nx3, segS_ok So.2 ⟨by unfold I64; simp only []; omega, by unfold I64; simp only []; omega⟩, by simp, by simp, by simp, by simp, by simp (disch := omega), by simp (disch := omega), by simp (disch := omega), by simp (disch := omega), by omega, by omega, by first | omega | (simp; omega), by first | omega | (simp; omega), fun i hi => by simp (disch := omega), rfl⟩
         ·simp only [List.getElem?_toArray, List.getElem?_cons_zero, List.getElem?_cons_succ, Option.some.injEq] at ho
          subst ho
          refine .e ?_
          refine AAny.step [6] (by kernel_rfl) (by simp) ?_
          intro i hi o ho
          simp only [List.mem_cons, List.not_mem_nil, or_false] at hi
          subst hi
          ·simp only [List.getElem?_toArray, List.getElem?_cons_zero, List.getElem?_cons_succ, Option.some.injEq] at ho
           subst ho
           refine .e ?_
           refine AAny.step [8] (by kernel_rfl) (by simp) ?_
           intro i hi o ho
           simp only [List.mem_cons, List.not_mem_nil, or_false] at hi
           subst hi
           ·simp only [List.getElem?_toArray, List.getElem?_cons_zero, List.getElem?_cons_succ, Option.some.injEq] at ho
            subst ho
            refine .e ?_
            refine AAny.done (by kernel_rfl) ?_
            refine J5 _ ?_
            exact ⟨(segS ⟨S.b.x, S.b.y⟩ ⟨cx, cy⟩).1, nx2, nx3, segS_ok So.2 ⟨by unfold I64; simp only []; omega, by unfold I64; simp only []; omega⟩, by simp, by simp, by simp, by simp, by simp (disch := omega), by simp (disch := omega), by simp (disch := omega), by simp (disch := omega), by omega, by omega, by first | omega | (simp; omega), by first | omega | (simp; omega), fun i hi => by simp (disch := omega), rfl⟩
  ·try simp only[dc]at h60
   refine .skip ?_
   refine J5 _ ?_
   exact ⟨T1, nx2, nx3, T1o, by simp, by simp, by simp, by simp, by simp (disch := omega), by simp (disch := omega), by simp (disch := omega), by simp (disch := omega), by omega, by omega, by first | omega | (simp; omega), by first | omega | (simp; omega), fun i hi => by simp (disch := omega), rfl⟩
end

end Go.Proofs.Ytmaebeknmiomnaa

/- Walks: FnMeetBoth: the law. -/
namespace Go.Proofs.Ytmaebeknmiomnaa
open Go Go.RowKit
set_option linter.unusedSimpArgs false
set_option linter.unusedVariables false
set_option maxRecDepth 100000
attribute [local simp] szT2 byT2 agT2 unT2 zoT2 szT26 byT26 agT26 flT26 fdT26_0 fdT26_1 fdT26_2 fdT26_3 zoT26 szT28 byT28 agT28 flT28 fdT28_0 fdT28_1 fdT28_2 zoT28 szT67 byT67 agT67 flT67 fdT67_0 fdT67_1 zoT67 szT69 byT69 agT69 flT69 fdT69_0 fdT69_1 zoT69

section
attribute [local simp] idf_numS cells_numS numS_fold idf_numI cells_numI numI_fold Sp.av Sp.cells Sg.av Sg.cells Pt.av Pt.cells
set_option maxHeartbeats 16000000 in
theorem fnMeetBoth_fc (l : List Int) (dl : Dig 256 l) : FC Try.prog 13 [Wd .u8 l] (.bool true) := by
 refine .b Try.func13 181 (fun nx K hK => ?_)
 refine .q ?_
 refine .sq fun K2 hK2 => ?_
 refine .sq fun K3 hK3 => ?_
 refine .region ?_
 refine .kf 1 (big_fc l) hb15 ?_
 refine .nil ?_
 refine hK3 _ ?_
 refine .c (t := decide (1048576 < (l.length : Int))) (fun h17 => ?_) (fun h17 => ?_)
 ·try simp only[dc]at h17
  refine .q ?_
  refine .ret ?_
  exact hK _ _ _ _ trivial ((Fin.m))
 ·try simp only[dc]at h17
  have hl : l.length ≤ 1048576 := by omega
  refine .skip ?_
  refine hK2 _ ?_
  refine .sq fun K5 hK5 => ?_
  refine .region ?_
  refine .k 1 ?_
  refine AOPS.old fun hold1 => ?_
  refine .a (drawMeet_ac l _ _ dl hl hold1) hb69 ?_
  rintro _ _ nx1 ⟨⟨S, T, So, To, rfl⟩, rfl, hnx1⟩
  clear hold1
  have o1 := meetF_fc S T
  have o2 := meetF_fc T S
  rw [mtF_sym] at o2
  have o3 := meetS_fc S T
  rw [← mtF_eq] at o3
  have oa := mtF_ok S T
  have b0 := fun h => mb_bad (s := S) (t := T) h
  have b1 := fun hs ht h => mb_one (s := S) (t := T) hs ht h
  have b2 := fun hs ht h => mb_two (s := S) (t := T) hs ht h
  have b3 := fun hs ht h h' => mb_none (s := S) (t := T) hs ht h h'
  generalize mtF meetI S T = M at *
  obtain ⟨M, P, Q⟩ := M
  simp only [] at *
  refine .e ?_
  refine hK5 _ ?_
  refine .sq fun K6 hK6 => ?_
  refine .region ?_
  refine .kf 2 o1 hb70 ?_
  refine .e ?_
  refine hK6 _ ?_
  refine .sq fun K7 hK7 => ?_
  refine .region ?_
  refine .kf 2 o2 hb70 ?_
  refine .e ?_
  refine hK7 _ ?_
  refine .sq fun K8 hK8 => ?_
  refine .region ?_
  refine .kf 2 o3 hb71 ?_
  refine .e ?_
  refine hK8 _ ?_
  refine .sq fun K9 hK9 => ?_
  refine .q ?_ (by simp (disch := first|omega|(simp only[ln];omega)) [eqPt]; rfl)
  refine .c (fun h71 => ?_) (fun h71 => ?_)
  ·simp at h71
  ·try simp only[dc]at h71
   refine .skip ?_
   refine hK9 _ ?_
   refine .sq fun K11 hK11 => ?_
   refine .sq fun K12 hK12 => ?_
   cases gs : S.good
   ·refine .region ?_
    refine .kf 1 (segOkI_fc S) hb48 ?_ (by simp (disch := first|omega|(simp only[ln];omega)) [List.take_succ_cons, List.take_zero, gs]; rfl) (ha := by simp (disch := first|omega|(simp only[ln];omega)) [idf_Wd', gs])
    refine .e ?_ (by simp (disch := first|omega|(simp only[ln];omega)) [gs]; rfl)
    refine hK12 _ ?_
    refine .c (fun h79 => ?_) (fun h79 => ?_)
    ·try simp only[dc]at h79
     have z := b0 (by rw [gs]; rfl)
     subst z
     refine .q ?_
     refine .ret ?_
     exact hK _ _ _ _ trivial ((Fin.m))
    ·simp at h79
   ·cases gt : T.good
    ·refine .region ?_
     refine .kf 1 (segOkI_fc S) hb48 ?_ (by simp (disch := first|omega|(simp only[ln];omega)) [List.take_succ_cons, List.take_zero, gs, gt]; rfl) (ha := by simp (disch := first|omega|(simp only[ln];omega)) [idf_Wd', gs, gt])
     refine .kf 3 (segOkI_fc T) hb48 ?_ (by simp (disch := first|omega|(simp only[ln];omega)) [List.take_succ_cons, List.take_zero, gs, gt]; rfl) (ha := by simp (disch := first|omega|(simp only[ln];omega)) [idf_Wd', gs, gt])
     refine .e ?_ (by simp (disch := first|omega|(simp only[ln];omega)) [gs, gt]; rfl)
     refine hK12 _ ?_
     refine .c (fun h79 => ?_) (fun h79 => ?_)
     ·try simp only[dc]at h79
      have z := b0 (by rw [gs, gt]; rfl)
      subst z
      refine .q ?_
      refine .ret ?_
      exact hK _ _ _ _ trivial ((Fin.m))
     ·simp at h79
    ·refine .region ?_
     refine .kf 1 (segOkI_fc S) hb48 ?_ (by simp (disch := first|omega|(simp only[ln];omega)) [List.take_succ_cons, List.take_zero, gs, gt]; rfl) (ha := by simp (disch := first|omega|(simp only[ln];omega)) [idf_Wd', gs, gt])
     refine .kf 3 (segOkI_fc T) hb48 ?_ (by simp (disch := first|omega|(simp only[ln];omega)) [List.take_succ_cons, List.take_zero, gs, gt]; rfl) (ha := by simp (disch := first|omega|(simp only[ln];omega)) [idf_Wd', gs, gt])
     refine .e ?_ (by simp (disch := first|omega|(simp only[ln];omega)) [gs, gt]; rfl)
     refine hK12 _ ?_
     refine .c (fun h79 => ?_) (fun h79 => ?_)
     ·simp at h79
     ·try simp only[dc]at h79
      refine .skip ?_
      refine hK11 _ ?_
      refine .sq fun K15 hK15 => ?_
      refine .q ?_
      refine .block ?_
      refine .sq fun K17 hK17 => ?_
      by_cases k1 : M = 1
      ·have d1 : (M == 1) = true := by simp [k1]
       replace b1 := b1 gs gt k1
       have u1 := onSegF_fc S P oa.1
       rw [b1.1] at u1
       have u2 := onSegF_fc T P oa.1
       rw [b1.2] at u2
       refine .r ?_ (by simp (disch := first|omega|(simp only[ln];omega)) [d1]; rfl)
       refine hK17 _ ?_
       refine .c (fun h83 => ?_) (fun h83 => ?_)
       ·try simp only[dc]at h83
        refine .sq fun K18 hK18 => ?_
        refine .region ?_
        refine .kf 2 u1 hb43 ?_
        refine .kf 3 u2 hb43 ?_
        refine .e ?_
        refine hK18 _ ?_
        refine .ret ?_
        exact hK _ _ _ _ trivial ((Fin.m))
       ·simp at h83
      ·have d1 : (M == 1) = false := by simp [k1]
       refine .r ?_ (by simp (disch := first|omega|(simp only[ln];omega)) [d1]; rfl)
       refine hK17 _ ?_
       refine .c (fun h83 => ?_) (fun h83 => ?_)
       ·simp at h83
       ·try simp only[dc]at h83
        refine .sq fun K19 hK19 => ?_
        by_cases k2 : M = 2
        ·have d2 : (M == 2) = true := by simp [k2]
         obtain ⟨c0, ⟨c1, c2⟩, ⟨c3, c4⟩, c5, c6⟩ := b2 gs gt k2
         have u0 := pointCmpI_fc P Q oa.1 oa.2
         generalize oc P Q = V at *
         have dV : decide (V < 0) = true := decide_eq_true c0
         have u1 := onSegF_fc S P oa.1
         rw [c1] at u1
         have u2 := onSegF_fc T P oa.1
         rw [c2] at u2
         have u3 := onSegF_fc S Q oa.2
         rw [c3] at u3
         have u4 := onSegF_fc T Q oa.2
         rw [c4] at u4
         have pa := pointOfI_fc T.a (good_a gt)
         have pb := pointOfI_fc T.b (good_b gt)
         have u5 := sideOf_fc S (ptS T.a) (pt3_ok _ _ _)
         have u6 := sideOf_fc S (ptS T.b) (pt3_ok _ _ _)
         rw [c5] at u5
         rw [c6] at u6
         generalize ptS T.a = A at *
         generalize ptS T.b = B at *
         refine .r ?_ (by simp (disch := first|omega|(simp only[ln];omega)) [d2]; rfl)
         refine hK19 _ ?_
         refine .c (fun h93 => ?_) (fun h93 => ?_)
         ·try simp only[dc]at h93
          refine .sq fun K20 hK20 => ?_
          refine .d 40 ?_
          refine .k 2 (fun fs21 hfs21 => ?_) (by simp (disch := first|omega|(simp only[ln];omega)) [runDf.eq_def, runF1, runF2, stepF.eq_def, updo.eq_def, hupo.eq_def, opSto1.eq_def, List.take_succ_cons, List.take_zero, dV]; rfl)
          refine .f u0 hb17 ?_ (ha := by simp (disch := first|omega|(simp only[ln];omega)) [idf_Wd', dV])
          refine .k 4 (fun fs22 hfs22 => ?_) (by simp (disch := first|omega|(simp only[ln];omega)) [runDf.eq_def, runF1, runF2, stepF.eq_def, updo.eq_def, hupo.eq_def, opSto1.eq_def, List.take_succ_cons, List.take_zero, dV]; rfl)
          refine .f u1 hb43 ?_ (ha := by simp (disch := first|omega|(simp only[ln];omega)) [idf_Wd', dV])
          refine .k 4 (fun fs23 hfs23 => ?_) (by simp (disch := first|omega|(simp only[ln];omega)) [runDf.eq_def, runF1, runF2, stepF.eq_def, updo.eq_def, hupo.eq_def, opSto1.eq_def, List.take_succ_cons, List.take_zero, dV]; rfl)
          refine .f u2 hb43 ?_ (ha := by simp (disch := first|omega|(simp only[ln];omega)) [idf_Wd', dV])
          refine .k 4 (fun fs24 hfs24 => ?_) (by simp (disch := first|omega|(simp only[ln];omega)) [runDf.eq_def, runF1, runF2, stepF.eq_def, updo.eq_def, hupo.eq_def, opSto1.eq_def, List.take_succ_cons, List.take_zero, dV]; rfl)
          refine .f u3 hb43 ?_ (ha := by simp (disch := first|omega|(simp only[ln];omega)) [idf_Wd', dV])
          refine .k 4 (fun fs25 hfs25 => ?_) (by simp (disch := first|omega|(simp only[ln];omega)) [runDf.eq_def, runF1, runF2, stepF.eq_def, updo.eq_def, hupo.eq_def, opSto1.eq_def, List.take_succ_cons, List.take_zero, dV]; rfl)
          refine .f u4 hb43 ?_ (ha := by simp (disch := first|omega|(simp only[ln];omega)) [idf_Wd', dV])
          refine .k 5 (fun fs26 hfs26 => ?_) (by simp (disch := first|omega|(simp only[ln];omega)) [runDf.eq_def, runF1, runF2, stepF.eq_def, updo.eq_def, hupo.eq_def, opSto1.eq_def, List.take_succ_cons, List.take_zero, dV]; rfl)
          refine .f pa hb50 ?_ (ha := by simp (disch := first|omega|(simp only[ln];omega)) [idf_Wd', dV])
          refine .f u5 hb44 ?_ (ha := by simp (disch := first|omega|(simp only[ln];omega)) [idf_Wd', dV])
          refine .k 6 (fun fs27 hfs27 => ?_) (by simp (disch := first|omega|(simp only[ln];omega)) [runDf.eq_def, runF1, runF2, stepF.eq_def, updo.eq_def, hupo.eq_def, opSto1.eq_def, List.take_succ_cons, List.take_zero, dV]; rfl)
          refine .f pb hb50 ?_ (ha := by simp (disch := first|omega|(simp only[ln];omega)) [idf_Wd', dV])
          refine .f u6 hb44 ?_ (ha := by simp (disch := first|omega|(simp only[ln];omega)) [idf_Wd', dV])
          refine .k 2 (fun fs28 hfs28 => ?_) (by simp (disch := first|omega|(simp only[ln];omega)) [runDf.eq_def, runF1, runF2, stepF.eq_def, updo.eq_def, hupo.eq_def, opSto1.eq_def, List.take_succ_cons, List.take_zero, dV]; rfl)
          refine .r 40 (by simp only[ln, hfs21, hfs22, hfs23, hfs24, hfs25, hfs26, hfs27, hfs28];omega) ?_ (by simp (disch := first|omega|(simp only[ln];omega)) [runDf.eq_def, runF1, runF2, stepF.eq_def, updo.eq_def, hupo.eq_def, opSto1.eq_def, dV]; rfl)
          refine hK20 _ ?_
          refine .ret ?_
          exact hK _ _ _ _ trivial ((Fin.m))
         ·simp at h93
        ·have d2 : (M == 2) = false := by simp [k2]
         obtain ⟨c1, c2, c3, c4, c5⟩ := b3 gs gt k1 k2
         have pa := pointOfI_fc T.a (good_a gt)
         have pb := pointOfI_fc T.b (good_b gt)
         have pc := pointOfI_fc S.a (good_a gs)
         have pd := pointOfI_fc S.b (good_b gs)
         have um := middleI_fc (ptS T.a) (ptS T.b) (pt3_ok _ _ _) (pt3_ok _ _ _)
         have u1 := onSegF_fc S (ptS T.a) (pt3_ok _ _ _)
         rw [c1] at u1
         have u2 := onSegF_fc S (ptS T.b) (pt3_ok _ _ _)
         rw [c2] at u2
         have u3 := onSegF_fc T (ptS S.a) (pt3_ok _ _ _)
         rw [c3] at u3
         have u4 := onSegF_fc T (ptS S.b) (pt3_ok _ _ _)
         rw [c4] at u4
         have u5 := onSegF_fc S (midP (ptS T.a) (ptS T.b)) (midP_ok _ _)
         rw [c5] at u5
         generalize midP (ptS T.a) (ptS T.b) = N at *
         generalize ptS T.a = A at *
         generalize ptS T.b = B at *
         generalize ptS S.a = C at *
         generalize ptS S.b = D at *
         refine .r ?_ (by simp (disch := first|omega|(simp only[ln];omega)) [d2]; rfl)
         refine hK19 _ ?_
         refine .c (fun h93 => ?_) (fun h93 => ?_)
         ·simp at h93
         ·try simp only[dc]at h93
          refine .skip ?_
          refine hK15 _ ?_
          refine .sq fun K29 hK29 => ?_
          refine .old fun hold => ?_
          refine .d 11 ?_
          refine .k 2 (fun fs30 hfs30 => ?_)
          refine .f pa hb50 ?_
          refine .k 2 (fun fs31 hfs31 => ?_)
          refine .f pb hb50 ?_
          refine .f um hb29 ?_
          refine .k 2 (fun fs32 hfs32 => ?_)
          refine DP.runF1q (by simp (disch := first|omega|(simp only[ln];omega)) [runDf.eq_def, runF1, runF2, stepF.eq_def, updo.eq_def, hupo.eq_def, opSto1.eq_def]; rfl) fun fq33 hfq33 => ?_
          simp [qids, asksB, Op.operands, topId] at hfq33
          simp only [updo]
          refine .k 1 (fun fs34 hfs34 => ?_)
          refine DQ.sto1 (m := 11) [9] _ (by simp (disch := first|omega|(simp only[ln];omega)) [runDf.eq_def, runF1, runF2, stepF.eq_def, updo.eq_def, hupo.eq_def, opSto1.eq_def]; rfl) rfl (by simp only[ln, hfs30, hfs31, hfs32, hfs34];omega) (by kernel_rfl) (by intro k f hk hex; simp only [List.mem_cons, List.not_mem_nil, or_false] at hex; rcases hex with rfl <;> (simp [List.getElem?_append, hfs30, hfs31, hfs32, hfs34] at hk; subst hk; refine ⟨?_, by first | omega | (simp; done) | (simp; omega)⟩; simp [qids, asksB, Op.operands, Call.operands, topId, numS, numI, Wd, hfq33]; try omega)) ?_
          try simp only []
          refine DQ.asg1 _ rfl rfl ?_
          simp only [updo]
          refine hK29 _ ?_
          refine .sq fun K35 hK35 => ?_
          refine .d 36 ?_
          refine .k 3 (fun fs36 hfs36 => ?_)
          refine .f pa hb50 ?_
          refine .f u1 hb43 ?_
          refine .k 5 (fun fs37 hfs37 => ?_)
          refine .f pb hb50 ?_
          refine .f u2 hb43 ?_
          refine .k 6 (fun fs38 hfs38 => ?_)
          refine .f pc hb50 ?_
          refine .f u3 hb43 ?_
          refine .k 6 (fun fs39 hfs39 => ?_)
          refine .f pd hb50 ?_
          refine .f u4 hb43 ?_
          refine .k 5 (fun fs40 hfs40 => ?_)
          refine .f u5 hb43 ?_
          refine .k 2 (fun fs41 hfs41 => ?_)
          refine .r 36 (by simp only[ln, hfs36, hfs37, hfs38, hfs39, hfs40, hfs41];omega) ?_
          refine hK35 _ ?_
          refine .ret ?_
          exact hK _ _ _ _ trivial ((Fin.m))
end

end Go.Proofs.Ytmaebeknmiomnaa
