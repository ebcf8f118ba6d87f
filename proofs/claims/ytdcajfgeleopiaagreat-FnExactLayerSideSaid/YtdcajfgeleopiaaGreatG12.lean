/- Walks: turns of three points. -/
import Derived.Test.YtdcajfgeleopiaaGreatG11

namespace Go.Proofs.YtdcajfgeleopiaaGreat
open Go Go.RowKit
set_option linter.unusedSimpArgs false
set_option linter.unusedVariables false
set_option maxRecDepth 100000
attribute [local simp] szT4 byT4 agT4 unT4 zoT4 szT36 byT36 agT36 flT36 fdT36_0 fdT36_1 fdT36_2 fdT36_3 zoT36 szT38 byT38 agT38 flT38 fdT38_0 fdT38_1 fdT38_2 zoT38 szT71 byT71 agT71 elT71 unT71 zoT71 szT73 byT73 agT73 flT73 fdT73_0 fdT73_1 zoT73 szT75 byT75 agT75 flT75 fdT75_0 fdT75_1 fdT75_2 zoT75 szT86 byT86 agT86 elT86 unT86 zoT86 szT88 byT88 agT88 flT88 fdT88_0 fdT88_1 zoT88 szT90 byT90 agT90 flT90 fdT90_0 fdT90_1 fdT90_2 zoT90

section
attribute [local simp] idf_numS cells_numS numS_fold idf_numI cells_numI numI_fold Pt.av Pt.cells spA spC
set_option maxHeartbeats 2000000 in
theorem turn_fc (p q r : Pt) (hp : p.ok) (hq : q.ok) (hr : r.ok) : FC Tryz.prog 141 [p.av, q.av, r.av] (.int .i64 (sg3 (det p q r))) := by
 have pX := W4.bg hp.1
 have pY := W4.bg hp.2.1
 have pW := W4.bg hp.2.2
 have qX := W4.bg hq.1
 have qY := W4.bg hq.2.1
 have qW := W4.bg hq.2.2
 have rX := W4.bg hr.1
 have rY := W4.bg hr.2.1
 have rW := W4.bg hr.2.2
 refine .b Tryz.func141 67 (fun nx K hK => ?_) (hi := by simp [idfL, idf, Pt.av, Pt.cells])
 refine .q ?_
 refine .sq fun K2 hK2 => ?_
 refine .old fun hold => ?_
 refine .d 9 ?_
 refine .k 1 (fun fs3 hfs3 => ?_)
 refine .f (spot_fc p hp) hb45 ?_
 refine DP.runF1q (by simp (disch := first|omega|(simp only[ln];omega)) [runDf.eq_def, runF1, runF2, stepF.eq_def, updo.eq_def, hupo.eq_def, opSto1.eq_def]; rfl) fun fq4 hfq4 => ?_
 simp [qids, asksB, Op.operands, topId] at hfq4
 simp only [updo]
 refine .f (spot_fc q hq) hb45 ?_
 refine DP.runF1q (by simp (disch := first|omega|(simp only[ln];omega)) [runDf.eq_def, runF1, runF2, stepF.eq_def, updo.eq_def, hupo.eq_def, opSto1.eq_def]; rfl) fun fq5 hfq5 => ?_
 simp [qids, asksB, Op.operands, topId] at hfq5
 simp only [updo]
 refine .f (spot_fc r hr) hb45 ?_
 refine .k 3 (fun fs6 hfs6 => ?_)
 refine DQ.sto1 (m := 9) [2, 3, 4] _ (by simp (disch := first|omega|(simp only[ln];omega)) [runDf.eq_def, runF1, runF2, stepF.eq_def, updo.eq_def, hupo.eq_def, opSto1.eq_def]; rfl) rfl (by simp only[ln, hfs3, hfs6];omega) (by kernel_rfl) (by intro k f hk hex; simp only [List.mem_cons, List.not_mem_nil, or_false] at hex; rcases hex with rfl | rfl | rfl <;> (simp [List.getElem?_append, hfs3, hfs6] at hk; subst hk; refine ⟨?_, by first | omega | (simp; done) | (simp; omega)⟩; simp [qids, asksB, Op.operands, Call.operands, topId, numS, numI, Wd, hfq4, hfq5]; try omega)) ?_
 try simp only []
 refine DQ.sto1 (m := 9) [4, 5] _ (by simp (disch := first|omega|(simp only[ln];omega)) [runDf.eq_def, runF1, runF2, stepF.eq_def, updo.eq_def, hupo.eq_def, opSto1.eq_def]; rfl) rfl (by simp only[ln, hfs3, hfs6];omega) (by kernel_rfl) (by intro k f hk hex; simp only [List.mem_cons, List.not_mem_nil, or_false] at hex; rcases hex with rfl | rfl <;> (simp [List.getElem?_append, hfs3, hfs6] at hk; subst hk; refine ⟨?_, by first | omega | (simp; done) | (simp; omega)⟩; simp [qids, asksB, Op.operands, Call.operands, topId, numS, numI, Wd, hfq4, hfq5]; try omega)) ?_
 try simp only []
 refine DQ.sto1 (m := 9) [] _ (by simp (disch := first|omega|(simp only[ln];omega)) [runDf.eq_def, runF1, runF2, stepF.eq_def, updo.eq_def, hupo.eq_def, opSto1.eq_def]; rfl) rfl (by simp only[ln, hfs3, hfs6];omega) (by kernel_rfl) (by intro k f hk hex; simp only [List.not_mem_nil] at hex) ?_
 try simp only []
 refine hK2 _ ?_
 refine .sq fun K7 hK7 => ?_
 refine .d 15 ?_
 refine .k 4 (fun fs8 hfs8 => ?_)
 refine .f (by_fc qY rW (by omega) (by omega)) hb48 ?_
 refine .k 4 (fun fs9 hfs9 => ?_)
 refine .f (by_fc rY qW (by omega) (by omega)) hb48 ?_
 refine .f (less_fc (qY.mul rW) (rY.mul qW) (by omega) (by omega)) hb50 ?_
 refine .k 2 (fun fs10 hfs10 => ?_)
 refine .f (by_fc ((qY.mul rW).sub (rY.mul qW)) pX (by omega) (by omega)) hb48 ?_
 refine .k 1 (fun fs11 hfs11 => ?_)
 refine .r 15 (by simp only[ln, hfs8, hfs9, hfs10, hfs11];omega) ?_
 refine hK7 _ ?_
 refine .sq fun K12 hK12 => ?_
 refine .d 15 ?_
 refine .k 4 (fun fs13 hfs13 => ?_)
 refine .f (by_fc qW rX (by omega) (by omega)) hb48 ?_
 refine .k 4 (fun fs14 hfs14 => ?_)
 refine .f (by_fc rW qX (by omega) (by omega)) hb48 ?_
 refine .f (less_fc (qW.mul rX) (rW.mul qX) (by omega) (by omega)) hb50 ?_
 refine .k 2 (fun fs15 hfs15 => ?_)
 refine .f (by_fc ((qW.mul rX).sub (rW.mul qX)) pY (by omega) (by omega)) hb48 ?_
 refine .k 1 (fun fs16 hfs16 => ?_)
 refine .r 15 (by simp only[ln, hfs13, hfs14, hfs15, hfs16];omega) ?_
 refine hK12 _ ?_
 refine .sq fun K17 hK17 => ?_
 refine .d 15 ?_
 refine .k 4 (fun fs18 hfs18 => ?_)
 refine .f (by_fc qX rY (by omega) (by omega)) hb48 ?_
 refine .k 4 (fun fs19 hfs19 => ?_)
 refine .f (by_fc rX qY (by omega) (by omega)) hb48 ?_
 refine .f (less_fc (qX.mul rY) (rX.mul qY) (by omega) (by omega)) hb50 ?_
 refine .k 2 (fun fs20 hfs20 => ?_)
 refine .f (by_fc ((qX.mul rY).sub (rX.mul qY)) pW (by omega) (by omega)) hb48 ?_
 refine .k 1 (fun fs21 hfs21 => ?_)
 refine .r 15 (by simp only[ln, hfs18, hfs19, hfs20, hfs21];omega) ?_
 refine hK17 _ ?_
 refine .sq fun K22 hK22 => ?_
 refine .d 6 ?_
 refine .k 2 (fun fs23 hfs23 => ?_)
 refine .f (plus_fc (((qY.mul rW).sub (rY.mul qW)).mul pX) (((qW.mul rX).sub (rW.mul qX)).mul pY) (by omega) (by omega)) hb51 ?_
 refine .k 1 (fun fs24 hfs24 => ?_)
 refine .f (plus_fc ((((qY.mul rW).sub (rY.mul qW)).mul pX).add (((qW.mul rX).sub (rW.mul qX)).mul pY)) (((qX.mul rY).sub (rX.mul qY)).mul pW) (by omega) (by omega)) hb51 ?_
 refine .f (sign_fc ((q.y.v * r.w.v - r.y.v * q.w.v) * p.x.v + (q.w.v * r.x.v - r.w.v * q.x.v) * p.y.v + (q.x.v * r.y.v - r.x.v * q.y.v) * p.w.v)) hb84 ?_
 refine .r 6 (by simp only[ln, hfs23, hfs24];omega) ?_
 refine hK22 _ ?_
 refine .ret ?_
 exact hK _ _ _ _ trivial ((Fin.m).cast (by rfl))
end
section
attribute [local simp] idf_numS cells_numS numS_fold idf_numI cells_numI numI_fold l3A l3C
set_option maxHeartbeats 2000000 in
theorem l3Orient_fc (p q r : Pt) (hp : p.ok) (hq : q.ok) (hr : r.ok) : FC Tryz.prog 130 [l3A p.x.v p.y.v p.w.v, l3A q.x.v q.y.v q.w.v, l3A r.x.v r.y.v r.w.v] (.int .i64 (sg3 (det p q r))) := by
 have pX := W4.bg hp.1
 have pY := W4.bg hp.2.1
 have pW := W4.bg hp.2.2
 have qX := W4.bg hq.1
 have qY := W4.bg hq.2.1
 have qW := W4.bg hq.2.2
 have rX := W4.bg hr.1
 have rY := W4.bg hr.2.1
 have rW := W4.bg hr.2.2
 refine .b Tryz.func130 58 (fun nx K hK => ?_) (hi := by simp [idfL, idf, l3A, l3C, idf_Wd'])
 refine .q ?_
 refine .sq fun K2 hK2 => ?_
 refine .d 15 ?_
 refine .k 6 (fun fs3 hfs3 => ?_)
 refine .f (l1Mul_fc qY rW (by omega) (by omega)) hb113 ?_
 refine .k 4 (fun fs4 hfs4 => ?_)
 refine .f (l1Mul_fc qW rY (by omega) (by omega)) hb113 ?_
 refine .f (l1Sub_fc (qY.mul rW) (qW.mul rY) (by omega) (by omega)) hb125 ?_
 refine .f (l1Mul_fc pX ((qY.mul rW).sub (qW.mul rY)) (by omega) (by omega)) hb113 ?_
 refine .k 1 (fun fs5 hfs5 => ?_)
 refine .r 15 (by simp only[ln, hfs3, hfs4, hfs5];omega) ?_
 refine hK2 _ ?_
 refine .sq fun K6 hK6 => ?_
 refine .d 15 ?_
 refine .k 6 (fun fs7 hfs7 => ?_)
 refine .f (l1Mul_fc qX rW (by omega) (by omega)) hb113 ?_
 refine .k 4 (fun fs8 hfs8 => ?_)
 refine .f (l1Mul_fc qW rX (by omega) (by omega)) hb113 ?_
 refine .f (l1Sub_fc (qX.mul rW) (qW.mul rX) (by omega) (by omega)) hb125 ?_
 refine .f (l1Mul_fc pY ((qX.mul rW).sub (qW.mul rX)) (by omega) (by omega)) hb113 ?_
 refine .k 1 (fun fs9 hfs9 => ?_)
 refine .r 15 (by simp only[ln, hfs7, hfs8, hfs9];omega) ?_
 refine hK6 _ ?_
 refine .sq fun K10 hK10 => ?_
 refine .d 15 ?_
 refine .k 6 (fun fs11 hfs11 => ?_)
 refine .f (l1Mul_fc qX rY (by omega) (by omega)) hb113 ?_
 refine .k 4 (fun fs12 hfs12 => ?_)
 refine .f (l1Mul_fc qY rX (by omega) (by omega)) hb113 ?_
 refine .f (l1Sub_fc (qX.mul rY) (qY.mul rX) (by omega) (by omega)) hb125 ?_
 refine .f (l1Mul_fc pW ((qX.mul rY).sub (qY.mul rX)) (by omega) (by omega)) hb113 ?_
 refine .k 1 (fun fs13 hfs13 => ?_)
 refine .r 15 (by simp only[ln, hfs11, hfs12, hfs13];omega) ?_
 refine hK10 _ ?_
 refine .sq fun K14 hK14 => ?_
 refine .d 6 ?_
 refine .k 2 (fun fs15 hfs15 => ?_)
 refine .f (l1Sub_fc (pX.mul ((qY.mul rW).sub (qW.mul rY))) (pY.mul ((qX.mul rW).sub (qW.mul rX))) (by omega) (by omega)) hb125 ?_
 refine .k 1 (fun fs16 hfs16 => ?_)
 refine .f (l1Add_fc ((pX.mul ((qY.mul rW).sub (qW.mul rY))).sub (pY.mul ((qX.mul rW).sub (qW.mul rX)))) (pW.mul ((qX.mul rY).sub (qY.mul rX))) (by omega) (by omega)) hb152 ?_
 refine .f (l1Sign_fc (p.x.v * (q.y.v * r.w.v - q.w.v * r.y.v) - p.y.v * (q.x.v * r.w.v - q.w.v * r.x.v) + p.w.v * (q.x.v * r.y.v - q.y.v * r.x.v))) hb73 ?_
 refine .r 6 (by simp only[ln, hfs15, hfs16];omega) ?_
 refine hK14 _ ?_
 refine .ret ?_
 exact hK _ _ _ _ trivial ((Fin.m).cast (by rw [det_spec]; rfl))
end

end Go.Proofs.YtdcajfgeleopiaaGreat

/- Walks: points made by the reference. -/
namespace Go.Proofs.YtdcajfgeleopiaaGreat
open Go Go.RowKit
set_option linter.unusedSimpArgs false
set_option linter.unusedVariables false
set_option maxRecDepth 100000
attribute [local simp] szT2 byT2 agT2 unT2 zoT2 szT4 byT4 agT4 unT4 zoT4 szT25 byT25 agT25 unT25 zoT25 szT36 byT36 agT36 flT36 fdT36_0 fdT36_1 fdT36_2 fdT36_3 zoT36 szT38 byT38 agT38 flT38 fdT38_0 fdT38_1 fdT38_2 zoT38 szT53 byT53 agT53 flT53 fdT53_0 fdT53_1 zoT53 szT71 byT71 agT71 elT71 unT71 zoT71 szT73 byT73 agT73 flT73 fdT73_0 fdT73_1 zoT73 szT75 byT75 agT75 flT75 fdT75_0 fdT75_1 fdT75_2 zoT75 szT164 byT164 agT164 unT164 zoT164

section
attribute [local simp] idf_numS cells_numS numS_fold
set_option maxHeartbeats 2000000 in
theorem l1Div_fc {j : Nat} (a b : Int) (hb0 : b ≠ 0) (ha : Bg j a) (hb : Bg j b) (hj : j ≤ 16777216) : FC Tryz.prog 171 [numS a, numS b] (.tup [numS (a / b), numS (a % b)]) := by
 have hD := l1DivAbs_fc a.natAbs b.natAbs (by omega) ha.abs hb.abs hj
 rw [dg_abs, dg_abs] at hD
 have eu := eu_lem a b hb0
 generalize hq : ((a.natAbs / b.natAbs : Nat) : Int) = q0 at *
 generalize hr : ((a.natAbs % b.natAbs : Nat) : Int) = r0 at *
 have q0n : 0 ≤ q0 := by rw [← hq]; exact Int.natCast_nonneg _
 have r0n : 0 ≤ r0 := by rw [← hr]; exact Int.natCast_nonneg _
 have bq : Bg j q0 := by
   rw [← hq]; unfold Bg at *; rw [Int.natAbs_natCast]; have := Nat.div_le_self a.natAbs b.natAbs; omega
 have br : Bg j r0 := by
   rw [← hr]; unfold Bg at *; rw [Int.natAbs_natCast]; have := Nat.mod_le a.natAbs b.natAbs; omega
 have bqs : ∀ s, Bg j (sg s q0) := fun s => by cases s <;> simp only [sg_true, sg_false]; exact bq; exact bq.neg
 have brs : ∀ s, Bg j (sg s r0) := fun s => by cases s <;> simp only [sg_true, sg_false]; exact br; exact br.neg
 have lq := bq.len32
 have lr := br.len32
 have hT1 := l1Trim_fc (decide (a < 0) != decide (b < 0)) (dg q0) (by omega) (dg_dig _)
 rw [dg_val, Int.natAbs_of_nonneg q0n] at hT1
 have hT2 := l1Trim_fc (decide (a < 0)) (dg r0) (by omega) (dg_dig _)
 rw [dg_val, Int.natAbs_of_nonneg r0n] at hT2
 obtain ⟨S, hS⟩ : ∃ S, (decide (a < 0) != decide (b < 0)) = S := ⟨_, rfl⟩
 have hS2 : (decide (a < 0) == decide (b < 0)) = !S := by rw [← hS]; cases decide (a < 0) <;> cases decide (b < 0) <;> rfl
 rw [hS] at eu hT1
 refine .b Tryz.func171 47 (fun nx K hK => ?_)
 refine .q ?_
 refine .sq fun K2 hK2 => ?_
 refine .region ?_
 refine .kf 4 hD hb126 ?_
 refine .e ?_
 refine hK2 _ ?_
 refine .sq fun K3 hK3 => ?_
 refine .region ?_
 refine .kf 6 hT1 hb127 ?_ (by simp (disch := first|omega|(simp only[ln];omega)) [List.take_succ_cons, List.take_zero, hS2]; rfl) (ha := by simp (disch := first|omega|(simp only[ln];omega)) [idf_Wd', hS2])
 refine .e ?_ (by simp (disch := first|omega|(simp only[ln];omega)) [hS2]; rfl)
 refine hK3 _ ?_
 refine .sq fun K4 hK4 => ?_
 refine .region ?_
 refine .kf 3 hT2 hb127 ?_
 refine .e ?_
 refine hK4 _ ?_
 refine .sq fun K5 hK5 => ?_
 refine .q ?_
 refine .c (t := decide (sg (decide (a < 0)) r0 < 0)) (fun h30 => ?_) (fun h30 => ?_)
 ·try simp only[dc]at h30
  refine .q ?_
  refine .c (t := decide (b < 0)) (fun h32 => ?_) (fun h32 => ?_)
  ·try simp only[dc]at h32
   have e := eu.2.1 h30 h32
   refine .sq fun K8 hK8 => ?_
   refine .d 3 ?_
   refine .k 1 (fun fs9 hfs9 => ?_)
   refine .f (l1Int_fc 1 (by omega) (by omega)) hb77 ?_
   refine .f (l1Add_fc (bqs S) (Bg.i64 (n := 1) (by omega) (by omega)) (by omega) (by omega)) hb152 ?_
   refine .r 3 (by simp only[ln, hfs9];omega) ?_
   refine hK8 _ ?_
   refine .region ?_
   refine .kf 2 (l1Sub_fc (brs (decide (a < 0))) hb (by omega) (by omega)) hb125 ?_
   refine .e ?_
   refine hK5 _ ?_
   refine .sq fun K10 hK10 => ?_
   refine .old fun hold => ?_
   refine .d 2 ?_
   refine .k 1 (fun fs11 hfs11 => ?_)
   refine DP.runF1q (by simp (disch := first|omega|(simp only[ln];omega)) [runDf.eq_def, runF1, runF2, stepF.eq_def, updo.eq_def, hupo.eq_def, opSto1.eq_def]; rfl) fun fq12 hfq12 => ?_
   simp [qids, asksB, Op.operands, topId] at hfq12
   simp only [updo]
   refine DQ.sto1 (m := 2) [1] _ (by simp (disch := first|omega|(simp only[ln];omega)) [runDf.eq_def, runF1, runF2, stepF.eq_def, updo.eq_def, hupo.eq_def, opSto1.eq_def]; rfl) rfl (by simp only[ln, hfs11];omega) (by kernel_rfl) (by intro k f hk hex; simp only [List.mem_cons, List.not_mem_nil, or_false] at hex; rcases hex with rfl <;> (simp [List.getElem?_append, hfs11] at hk; subst hk; refine ⟨?_, by first | omega | (simp; done) | (simp; omega)⟩; simp [qids, asksB, Op.operands, Call.operands, topId, numS, numI, Wd, hfq12]; try omega)) ?_
   try simp only []
   refine DQ.sto1 (m := 2) [] _ (by simp (disch := first|omega|(simp only[ln];omega)) [runDf.eq_def, runF1, runF2, stepF.eq_def, updo.eq_def, hupo.eq_def, opSto1.eq_def]; rfl) rfl (by simp only[ln, hfs11];omega) (by kernel_rfl) (by intro k f hk hex; simp only [List.not_mem_nil] at hex) ?_
   try simp only []
   refine hK10 _ ?_
   refine .ret ?_
   exact hK _ _ _ _ trivial ((Fin.m).cast (by rw [e.1, e.2]))
  ·try simp only[dc]at h32
   have e := eu.2.2 h30 h32
   refine .sq fun K13 hK13 => ?_
   refine .d 3 ?_
   refine .k 1 (fun fs14 hfs14 => ?_)
   refine .f (l1Int_fc 1 (by omega) (by omega)) hb77 ?_
   refine .f (l1Sub_fc (bqs S) (Bg.i64 (n := 1) (by omega) (by omega)) (by omega) (by omega)) hb125 ?_
   refine .r 3 (by simp only[ln, hfs14];omega) ?_
   refine hK13 _ ?_
   refine .region ?_
   refine .kf 2 (l1Add_fc (brs (decide (a < 0))) hb (by omega) (by omega)) hb152 ?_
   refine .e ?_
   refine hK5 _ ?_
   refine .sq fun K15 hK15 => ?_
   refine .old fun hold => ?_
   refine .d 2 ?_
   refine .k 1 (fun fs16 hfs16 => ?_)
   refine DP.runF1q (by simp (disch := first|omega|(simp only[ln];omega)) [runDf.eq_def, runF1, runF2, stepF.eq_def, updo.eq_def, hupo.eq_def, opSto1.eq_def]; rfl) fun fq17 hfq17 => ?_
   simp [qids, asksB, Op.operands, topId] at hfq17
   simp only [updo]
   refine DQ.sto1 (m := 2) [1] _ (by simp (disch := first|omega|(simp only[ln];omega)) [runDf.eq_def, runF1, runF2, stepF.eq_def, updo.eq_def, hupo.eq_def, opSto1.eq_def]; rfl) rfl (by simp only[ln, hfs16];omega) (by kernel_rfl) (by intro k f hk hex; simp only [List.mem_cons, List.not_mem_nil, or_false] at hex; rcases hex with rfl <;> (simp [List.getElem?_append, hfs16] at hk; subst hk; refine ⟨?_, by first | omega | (simp; done) | (simp; omega)⟩; simp [qids, asksB, Op.operands, Call.operands, topId, numS, numI, Wd, hfq17]; try omega)) ?_
   try simp only []
   refine DQ.sto1 (m := 2) [] _ (by simp (disch := first|omega|(simp only[ln];omega)) [runDf.eq_def, runF1, runF2, stepF.eq_def, updo.eq_def, hupo.eq_def, opSto1.eq_def]; rfl) rfl (by simp only[ln, hfs16];omega) (by kernel_rfl) (by intro k f hk hex; simp only [List.not_mem_nil] at hex) ?_
   try simp only []
   refine hK15 _ ?_
   refine .ret ?_
   exact hK _ _ _ _ trivial ((Fin.m).cast (by rw [e.1, e.2]))
 ·try simp only[dc]at h30
  have e := eu.1 h30
  refine .skip ?_
  refine hK5 _ ?_
  refine .sq fun K18 hK18 => ?_
  refine .old fun hold => ?_
  refine .d 2 ?_
  refine .k 1 (fun fs19 hfs19 => ?_)
  refine DP.runF1q (by simp (disch := first|omega|(simp only[ln];omega)) [runDf.eq_def, runF1, runF2, stepF.eq_def, updo.eq_def, hupo.eq_def, opSto1.eq_def]; rfl) fun fq20 hfq20 => ?_
  simp [qids, asksB, Op.operands, topId] at hfq20
  simp only [updo]
  refine DQ.sto1 (m := 2) [1] _ (by simp (disch := first|omega|(simp only[ln];omega)) [runDf.eq_def, runF1, runF2, stepF.eq_def, updo.eq_def, hupo.eq_def, opSto1.eq_def]; rfl) rfl (by simp only[ln, hfs19];omega) (by kernel_rfl) (by intro k f hk hex; simp only [List.mem_cons, List.not_mem_nil, or_false] at hex; rcases hex with rfl <;> (simp [List.getElem?_append, hfs19] at hk; subst hk; refine ⟨?_, by first | omega | (simp; done) | (simp; omega)⟩; simp [qids, asksB, Op.operands, Call.operands, topId, numS, numI, Wd, hfq20]; try omega)) ?_
  try simp only []
  refine DQ.sto1 (m := 2) [] _ (by simp (disch := first|omega|(simp only[ln];omega)) [runDf.eq_def, runF1, runF2, stepF.eq_def, updo.eq_def, hupo.eq_def, opSto1.eq_def]; rfl) rfl (by simp only[ln, hfs19];omega) (by kernel_rfl) (by intro k f hk hex; simp only [List.not_mem_nil] at hex) ?_
  try simp only []
  refine hK18 _ ?_
  refine .ret ?_
  exact hK _ _ _ _ trivial ((Fin.m).cast (by rw [e.1, e.2]))
set_option maxHeartbeats 2000000 in
theorem l3Make_fc {j : Nat} (x y w : Int) (hw : w ≠ 0) (bx : Bg j x) (bY : Bg j y) (bw : Bg j w) (hj0 : 1 ≤ j) (hj : j ≤ 16777216) : FC Tryz.prog 146 [numS x, numS y, numS w] (l3A (nrm w x / gcd3 x y w) (nrm w y / gcd3 x y w) (nrm w w / gcd3 x y w)) := by
 have hgp := gcd3_pos (x := x) (y := y) hw
 have hg3 := gcd3_nrm x y w
 refine .b Tryz.func146 47 (fun nx K hK => ?_) (hr := by simp [idfL, idf, l3A, l3C, idf_Wd'])
 refine .q ?_
 refine .sq fun K2 hK2 => ?_
 have J2 : ∀ s : St, (∃ X Y W : Int, X = nrm w x ∧ Y = nrm w y ∧ W = nrm w w ∧ s.env 3 = .ptr nx 0 0 ∧ s.env 4 = .ptr (nx + 1) 0 0 ∧ s.env 5 = .ptr (nx + 1 + 1) 0 0 ∧ s.env 6 = .ptr (nx + 1 + 1 + 1) 0 0 ∧ s.heap nx = some (2, [[.bool (decide (X < 0)), Wd .u32 (dg X)]]) ∧ s.heap (nx + 1) = some (2, [[.bool (decide (Y < 0)), Wd .u32 (dg Y)]]) ∧ s.heap (nx + 1 + 1) = some (2, [[.bool (decide (W < 0)), Wd .u32 (dg W)]]) ∧ s.heap (nx + 1 + 1 + 1) = some (6, [[.bool false, .nsl, .bool false, .nsl, .bool false, .nsl]]) ∧ nx + 1 + 1 + 1 < s.nx ∧ s.nt = 47) → K2 s := by
  rintro ⟨e, H, mm, nt⟩ ⟨X, Y, W, hX, hY, hW, h3, h4, h5, h6, hA, hB, hC, hD, hm, rfl⟩
  simp only [] at h3 h4 h5 h6 hA hB hC hD hm
  rw [← hX, ← hY, ← hW] at hg3
  have cX : Bg j X := by rw [hX]; exact bx.nrm
  have cY : Bg j Y := by rw [hY]; exact bY.nrm
  have cW : Bg j W := by rw [hW]; exact bw.nrm
  have bG1 : Bg j ((Int.gcd X Y : Nat) : Int) := Bg.gcd cX.abs cY.abs
  have bG : Bg j (gcd3 x y w) := by rw [← hg3]; exact Bg.gcd bG1 cW.abs
  have hg2 : FC Tryz.prog 76 [numS ((Int.gcd X Y : Nat) : Int), numS W] (numS (gcd3 x y w)) := by
    have h := l1Gcd_fc ((Int.gcd X Y : Nat) : Int) W bG1 cW hj
    have e : ((Int.gcd ((Int.gcd X Y : Nat) : Int) W : Nat) : Int) = gcd3 x y w := by rw [← hg3]; simp [Int.gcd, gcd3]
    rw [e] at h; exact h
  obtain ⟨cc, hcf, hce⟩ : ∃ c : Int, FC Tryz.prog 75 [numS (gcd3 x y w), numS 1] (.int .i64 c) ∧ (c == 0) = decide (gcd3 x y w = 1) := ⟨_, l1Cmp_fc bG (Bg.i64 (n := 1) (by omega) (by omega)) (by omega) (by omega), one_cmp _⟩
  generalize hgg : gcd3 x y w = g at *
  refine hK2 _ ?_
  refine .sq fun K3 hK3 => ?_
  refine .d 6 ?_
  refine .k 2 (fun fs4 hfs4 => ?_) (by simp (disch := first|omega|(simp only[ln];omega)) [runDf.eq_def, runF1, runF2, stepF.eq_def, updo.eq_def, hupo.eq_def, opSto1.eq_def, List.take_succ_cons, List.take_zero, h3, h4, h5, hA, hB, hC, Nat.ne_of_lt hm]; rfl)
  refine .f (l1Gcd_fc X Y cX cY hj) hb76 ?_ (ha := by simp (disch := first|omega|(simp only[ln];omega)) [idf_Wd', h3, h4, h5, hA, hB, hC, Nat.ne_of_lt hm])
  refine .k 1 (fun fs5 hfs5 => ?_) (by simp (disch := first|omega|(simp only[ln];omega)) [runDf.eq_def, runF1, runF2, stepF.eq_def, updo.eq_def, hupo.eq_def, opSto1.eq_def, List.take_succ_cons, List.take_zero, h3, h4, h5, hA, hB, hC, Nat.ne_of_lt hm]; rfl)
  refine .f hg2 hb76 ?_ (ha := by simp (disch := first|omega|(simp only[ln];omega)) [idf_Wd', h3, h4, h5, hA, hB, hC, Nat.ne_of_lt hm])
  refine .k 1 (fun fs6 hfs6 => ?_) (by simp (disch := first|omega|(simp only[ln];omega)) [runDf.eq_def, runF1, runF2, stepF.eq_def, updo.eq_def, hupo.eq_def, opSto1.eq_def, List.take_succ_cons, List.take_zero, h3, h4, h5, hA, hB, hC, Nat.ne_of_lt hm]; rfl)
  refine .r 6 (by simp only[ln, hfs4, hfs5, hfs6];omega) ?_ (by simp (disch := first|omega|(simp only[ln];omega)) [runDf.eq_def, runF1, runF2, stepF.eq_def, updo.eq_def, hupo.eq_def, opSto1.eq_def, h3, h4, h5, hA, hB, hC, Nat.ne_of_lt hm]; rfl)
  refine hK3 _ ?_
  refine .sq fun K7 hK7 => ?_
  refine .sq fun K8 hK8 => ?_
  refine .d 4 ?_
  refine .k 1 (fun fs9 hfs9 => ?_)
  refine .f (l1Int_fc 1 (by omega) (by omega)) hb77 ?_
  refine .f hcf hb75 ?_
  refine .k 1 (fun fs10 hfs10 => ?_)
  refine .r 4 (by simp only[ln, hfs9, hfs10];omega) ?_
  refine hK8 _ ?_
  refine .c (t := !decide (g = 1)) (fun h24 => ?_) (fun h24 => ?_) (by simp (disch := first|omega|(simp only[ln];omega)) [bne, hce])
  ·try simp only[dc]at h24
   refine .sq fun K11 hK11 => ?_
   refine .region ?_
   refine .kf 2 (l1Div_fc X g (by omega) cX bG hj) hb171 ?_ (by simp (disch := first|omega|(simp only[ln];omega)) [List.take_succ_cons, List.take_zero, h3, hA]; rfl) (ha := by simp (disch := first|omega|(simp only[ln];omega)) [idf_Wd', h3, hA])
   refine .e ?_ (by simp (disch := first|omega|(simp only[ln];omega)) [h3, hA]; rfl)
   refine hK11 _ ?_
   refine .sq fun K12 hK12 => ?_
   refine .region ?_
   refine .kf 2 (l1Div_fc Y g (by omega) cY bG hj) hb171 ?_ (by simp (disch := first|omega|(simp only[ln];omega)) [List.take_succ_cons, List.take_zero, h4, hB]; rfl) (ha := by simp (disch := first|omega|(simp only[ln];omega)) [idf_Wd', h4, hB])
   refine .e ?_ (by simp (disch := first|omega|(simp only[ln];omega)) [h4, hB]; rfl)
   refine hK12 _ ?_
   refine .region ?_
   refine .kf 2 (l1Div_fc W g (by omega) cW bG hj) hb171 ?_ (by simp (disch := first|omega|(simp only[ln];omega)) [List.take_succ_cons, List.take_zero, h5, hC]; rfl) (ha := by simp (disch := first|omega|(simp only[ln];omega)) [idf_Wd', h5, hC])
   refine .e ?_ (by simp (disch := first|omega|(simp only[ln];omega)) [h5, hC]; rfl)
   refine hK7 _ ?_
   refine .q ?_ (by simp (disch := first|omega|(simp only[ln];omega)) [h3, h4, h5, h6, hD]; rfl)
   refine .ret ?_
   exact hK _ _ _ _ trivial ((Fin.mk (by simp (disch := omega) [aRes, aResL, aRes1, h6]; rfl)).cast (by rw [← hX, ← hY, ← hW]; first | done | rfl))
  ·try simp only[dc]at h24
   have hg1 : g = 1 := by simpa using h24
   refine .skip ?_
   refine hK7 _ ?_
   refine .q ?_ (by simp (disch := first|omega|(simp only[ln];omega)) [h3, h4, h5, h6, hA, hB, hC, hD]; rfl)
   refine .ret ?_
   exact hK _ _ _ _ trivial ((Fin.mk (by simp (disch := omega) [aRes, aResL, aRes1, h6]; rfl)).cast (by rw [← hX, ← hY, ← hW, hg1, Int.ediv_one, Int.ediv_one, Int.ediv_one]; first | done | rfl))
 refine .q ?_
 refine .c (t := decide (w < 0)) (fun h9 => ?_) (fun h9 => ?_)
 ·try simp only[dc]at h9
  refine .old fun hold => ?_
  refine .d 6 ?_
  refine .k 1 (fun fs16 hfs16 => ?_)
  refine .f (l1Neg_fc x) hb159 ?_
  refine DP.runF1q (by simp (disch := first|omega|(simp only[ln];omega)) [runDf.eq_def, runF1, runF2, stepF.eq_def, updo.eq_def, hupo.eq_def, opSto1.eq_def]; rfl) fun fq17 hfq17 => ?_
  simp [qids, asksB, Op.operands, topId] at hfq17
  simp only [updo]
  refine .f (l1Neg_fc y) hb159 ?_
  refine DP.runF1q (by simp (disch := first|omega|(simp only[ln];omega)) [runDf.eq_def, runF1, runF2, stepF.eq_def, updo.eq_def, hupo.eq_def, opSto1.eq_def]; rfl) fun fq18 hfq18 => ?_
  simp [qids, asksB, Op.operands, topId] at hfq18
  simp only [updo]
  refine .f (l1Neg_fc w) hb159 ?_
  refine DQ.sto1 (m := 6) [2, 3, 4] _ (by simp (disch := first|omega|(simp only[ln];omega)) [runDf.eq_def, runF1, runF2, stepF.eq_def, updo.eq_def, hupo.eq_def, opSto1.eq_def]; rfl) rfl (by simp only[ln, hfs16];omega) (by kernel_rfl) (by intro k f hk hex; simp only [List.mem_cons, List.not_mem_nil, or_false] at hex; rcases hex with rfl | rfl | rfl <;> (simp [List.getElem?_append, hfs16] at hk; subst hk; refine ⟨?_, by first | omega | (simp; done) | (simp; omega)⟩; simp [qids, asksB, Op.operands, Call.operands, topId, numS, numI, Wd, hfq17, hfq18]; try omega)) ?_
  try simp only []
  refine DQ.sto1 (m := 6) [4, 5] _ (by simp (disch := first|omega|(simp only[ln];omega)) [runDf.eq_def, runF1, runF2, stepF.eq_def, updo.eq_def, hupo.eq_def, opSto1.eq_def]; rfl) rfl (by simp only[ln, hfs16];omega) (by kernel_rfl) (by intro k f hk hex; simp only [List.mem_cons, List.not_mem_nil, or_false] at hex; rcases hex with rfl | rfl <;> (simp [List.getElem?_append, hfs16] at hk; subst hk; refine ⟨?_, by first | omega | (simp; done) | (simp; omega)⟩; simp [qids, asksB, Op.operands, Call.operands, topId, numS, numI, Wd, hfq17, hfq18]; try omega)) ?_
  try simp only []
  refine DQ.sto1 (m := 6) [] _ (by simp (disch := first|omega|(simp only[ln];omega)) [runDf.eq_def, runF1, runF2, stepF.eq_def, updo.eq_def, hupo.eq_def, opSto1.eq_def]; rfl) rfl (by simp only[ln, hfs16];omega) (by kernel_rfl) (by intro k f hk hex; simp only [List.not_mem_nil] at hex) ?_
  try simp only []
  refine J2 _ ?_
  exact ⟨-x, -y, -w, by simp [nrm, h9], by simp [nrm, h9], by simp [nrm, h9], by simp, by simp, by simp, by simp, by simp (disch := omega), by simp (disch := omega), by simp (disch := omega), by simp (disch := omega), by simp, rfl⟩
 ·try simp only[dc]at h9
  refine .skip ?_
  refine J2 _ ?_
  exact ⟨x, y, w, by simp [nrm, h9], by simp [nrm, h9], by simp [nrm, h9], by simp, by simp, by simp, by simp, by simp (disch := omega), by simp (disch := omega), by simp (disch := omega), by simp (disch := omega), by simp, rfl⟩
end
section
attribute [local simp] idf_numS cells_numS numS_fold l3A l3C
set_option maxHeartbeats 2000000 in
theorem l3Point_fc {k : Nat} (x y w : Int) (bx : Bg k x) (bY : Bg k y) (bw : Bg k w) (hk : k ≤ 68719476736) : FC Tryz.prog 145 [l3A x y w] (.tup [.agg [.int .u64 (pt3 x y w).x.a, .int .u64 (pt3 x y w).x.b, .int .u64 (pt3 x y w).x.c, .int .u64 (pt3 x y w).x.d, .int .u64 (pt3 x y w).y.a, .int .u64 (pt3 x y w).y.b, .int .u64 (pt3 x y w).y.c, .int .u64 (pt3 x y w).y.d, .int .u64 (pt3 x y w).w.a, .int .u64 (pt3 x y w).w.b, .int .u64 (pt3 x y w).w.c, .int .u64 (pt3 x y w).w.d], .bool (sm x y w)]) := by
 have hs := l3Small_fc bx bY bw hk
 have w1 := l1Wide_fc bx hk
 have w2 := l1Wide_fc bY hk
 have w3 := l1Wide_fc bw hk
 rw [wdT_l] at w1 w2 w3
 unfold W4.l at w1 w2 w3
 refine .b Tryz.func145 36 (fun nx K hK => ?_)
 refine .q ?_
 refine .sq fun K2 hK2 => ?_
 refine .sq fun K3 hK3 => ?_
 refine .region ?_
 refine .kf 1 hs hb74 ?_
 refine .e ?_
 refine hK3 _ ?_
 refine .c (t := !(sm x y w)) (fun h12 => ?_) (fun h12 => ?_)
 ·try simp only[dc]at h12
  have hb : sm x y w = false := by simpa using h12
  refine .q ?_
  refine .ret ?_
  exact hK _ _ _ _ trivial ((Fin.m).cast (by rw [pt3, hb]; rfl))
 ·try simp only[dc]at h12
  have hb : sm x y w = true := by simpa using h12
  refine .skip ?_
  refine hK2 _ ?_
  refine .sq fun K5 hK5 => ?_
  refine .region ?_
  refine .kf 2 w1 hb147 ?_
  refine .e ?_
  refine hK5 _ ?_
  refine .sq fun K6 hK6 => ?_
  refine .region ?_
  refine .kf 2 w2 hb147 ?_
  refine .e ?_
  refine hK6 _ ?_
  refine .sq fun K7 hK7 => ?_
  refine .region ?_
  refine .kf 2 w3 hb147 ?_
  refine .e ?_
  refine hK7 _ ?_
  refine .q ?_
  refine .ret ?_
  exact hK _ _ _ _ trivial ((Fin.m).cast (by rw [pt3, if_pos hb, hb]))
end
section
attribute [local simp] idf_numS cells_numS numS_fold
theorem l3Spot_fc (x y : Int) (hx1 : -9223372036854775808 ≤ x) (hx2 : x ≤ 9223372036854775807) (hy1 : -9223372036854775808 ≤ y) (hy2 : y ≤ 9223372036854775807) : FC Tryz.prog 59 [.agg [.int .i64 x, .int .i64 y]] (l3A x y 1) := by
 refine .b Tryz.func59 11 (fun nx K hK => ?_) (hr := by simp [idfL, idf, l3A, l3C, idf_Wd'])
 refine .q ?_
 refine .sq fun K2 hK2 => ?_
 refine .d 8 ?_
 refine .k 2 (fun fs3 hfs3 => ?_)
 refine .f (l1Int_fc x hx1 hx2) hb77 ?_
 refine .k 2 (fun fs4 hfs4 => ?_)
 refine .f (l1Int_fc y hy1 hy2) hb77 ?_
 refine .f (l1Int_fc 1 (by omega) (by omega)) hb77 ?_
 refine .k 1 (fun fs5 hfs5 => ?_)
 refine .r 8 (by simp only[ln, hfs3, hfs4, hfs5];omega) ?_
 refine hK2 _ ?_
 refine .ret ?_
 exact hK _ _ _ _ trivial ((Fin.m).cast (by rfl))
theorem pointOfS_fc (x y : Int) (hx1 : -9223372036854775808 ≤ x) (hx2 : x ≤ 9223372036854775807) (hy1 : -9223372036854775808 ≤ y) (hy2 : y ≤ 9223372036854775807) : FC Tryz.prog 101 [.agg [.int .i64 x, .int .i64 y]] (.agg [.int .u64 (pt3 x y 1).x.a, .int .u64 (pt3 x y 1).x.b, .int .u64 (pt3 x y 1).x.c, .int .u64 (pt3 x y 1).x.d, .int .u64 (pt3 x y 1).y.a, .int .u64 (pt3 x y 1).y.b, .int .u64 (pt3 x y 1).y.c, .int .u64 (pt3 x y 1).y.d, .int .u64 (pt3 x y 1).w.a, .int .u64 (pt3 x y 1).w.b, .int .u64 (pt3 x y 1).w.c, .int .u64 (pt3 x y 1).w.d]) := by
 refine .b Tryz.func101 12 (fun nx K hK => ?_)
 refine .q ?_
 refine .sq fun K2 hK2 => ?_
 refine .region ?_
 refine .kf 1 (l3Spot_fc x y hx1 hx2 hy1 hy2) hb59 ?_
 refine .f (l3Point_fc x y 1 (Bg.i64 hx1 hx2) (Bg.i64 hy1 hy2) (Bg.i64 (n := 1) (by omega) (by omega)) (by omega)) hb145 ?_
 refine .e ?_
 refine hK2 _ ?_
 refine .q ?_
 refine .ret ?_
 exact hK _ _ _ _ trivial (Fin.m)
theorem wideOfS_fc (n : Int) (h1 : -9223372036854775808 ≤ n) (h2 : n ≤ 9223372036854775807) : FC Tryz.prog 98 [.int .i64 n] (.agg [.int .u64 (W4z n).a, .int .u64 (W4z n).b, .int .u64 (W4z n).c, .int .u64 (W4z n).d]) := by
 have w1 := l1Wide_fc (Bg.i64 h1 h2) (by omega)
 rw [wdT_l] at w1
 unfold W4.l at w1
 refine .b Tryz.func98 12 (fun nx K hK => ?_)
 refine .q ?_
 refine .sq fun K2 hK2 => ?_
 refine .region ?_
 refine .kf 1 (l1Int_fc n h1 h2) hb77 ?_
 refine .f w1 hb147 ?_
 refine .e ?_
 refine hK2 _ ?_
 refine .q ?_
 refine .ret ?_
 exact hK _ _ _ _ trivial (Fin.m)
end

end Go.Proofs.YtdcajfgeleopiaaGreat

/- Walks: points made and halved by the reference. -/
namespace Go.Proofs.YtdcajfgeleopiaaGreat
open Go Go.RowKit
set_option linter.unusedSimpArgs false
set_option linter.unusedVariables false
set_option maxRecDepth 100000
attribute [local simp] szT25 byT25 agT25 unT25 zoT25 szT36 byT36 agT36 flT36 fdT36_0 fdT36_1 fdT36_2 fdT36_3 zoT36 szT38 byT38 agT38 flT38 fdT38_0 fdT38_1 fdT38_2 zoT38

theorem eqW1 (n : Nat) (a a' : Int) : eqW Tryz.prog (n + 1) 25 [.int .u64 a] [.int .u64 a'] = some (a == a') := by
  unfold eqW; simp only [Tryz.underlying25]; rfl
theorem eqW4 (a b c d a' b' c' d' : Int) : eqW Tryz.prog 8 36 [.int .u64 a, .int .u64 b, .int .u64 c, .int .u64 d] [.int .u64 a', .int .u64 b', .int .u64 c', .int .u64 d'] = some ((a == a') && ((b == b') && ((c == c') && ((d == d') && true)))) := by
  have hs : Tryz.prog.stoodInHeld 36 = false := by kernel_rfl
  have hz : szOf Tryz.prog 25 = some 1 := by kernel_rfl
  have ha : aggT Tryz.prog 25 = some false := by kernel_rfl
  unfold eqW
  simp only [Tryz.underlying36, hs]
  simp [eqF, hz, ha, eqW1]

section
attribute [local simp] idf_numS cells_numS numS_fold wdI
set_option maxHeartbeats 2000000 in
theorem pointMakeS_fc (x y w : W4) (hx : x.ok) (hy : y.ok) (hw : w.ok) : FC Tryz.prog 96 [.agg [.int .u64 x.a, .int .u64 x.b, .int .u64 x.c, .int .u64 x.d], .agg [.int .u64 y.a, .int .u64 y.b, .int .u64 y.c, .int .u64 y.d], .agg [.int .u64 w.a, .int .u64 w.b, .int .u64 w.c, .int .u64 w.d]] (.tup [.agg [.int .u64 (mkP x.v y.v w.v).x.a, .int .u64 (mkP x.v y.v w.v).x.b, .int .u64 (mkP x.v y.v w.v).x.c, .int .u64 (mkP x.v y.v w.v).x.d, .int .u64 (mkP x.v y.v w.v).y.a, .int .u64 (mkP x.v y.v w.v).y.b, .int .u64 (mkP x.v y.v w.v).y.c, .int .u64 (mkP x.v y.v w.v).y.d, .int .u64 (mkP x.v y.v w.v).w.a, .int .u64 (mkP x.v y.v w.v).w.b, .int .u64 (mkP x.v y.v w.v).w.c, .int .u64 (mkP x.v y.v w.v).w.d], .bool (mkB x.v y.v w.v)]) := by
 have bX := W4.bg hx
 have bY := W4.bg hy
 have bW := W4.bg hw
 refine .b Tryz.func96 22 (fun nx K hK => ?_)
 refine .q ?_
 refine .sq fun K2 hK2 => ?_
 refine .sq fun K3 hK3 => ?_
 by_cases hz : w.a = 0 ∧ w.b = 0 ∧ w.c = 0 ∧ w.d = 0
 ·obtain ⟨wa, wb, wc, wd⟩ := w
  simp only [] at hz
  obtain ⟨rfl, rfl, rfl, rfl⟩ := hz
  have hv : W4.v ⟨0, 0, 0, 0⟩ = 0 := v_zero
  refine .r ?_ (by simp (disch := first|omega|(simp only[ln];omega)) [eqW4]; rfl)
  refine hK3 _ ?_
  refine .c (fun h10 => ?_) (fun h10 => ?_)
  ·try simp only[dc]at h10
   refine .q ?_
   refine .ret ?_
   exact hK _ _ _ _ trivial ((Fin.m).cast (by rw [mkP, mkB, if_pos hv, if_pos hv]; rfl))
  ·simp at h10
 ·have hne : w.v ≠ 0 := W4.ne hw hz
  refine .r ?_ (by simp (disch := first|omega|(simp only[ln];omega)) [eqW4]; rfl)
  refine hK3 _ ?_
  refine .c (fun h10 => ?_) (fun h10 => ?_)
  ·exact absurd (by simpa [and_assoc] using h10) hz
  ·try simp only[dc]at h10
   have hgp := gcd3_pos (x := x.v) (y := y.v) hne
   refine .skip ?_
   refine hK2 _ ?_
   refine .sq fun K5 hK5 => ?_
   refine .d 10 ?_
   refine .k 1 (fun fs6 hfs6 => ?_) (by simp (disch := first|omega|(simp only[ln];omega)) [runDf.eq_def, runF1, runF2, stepF.eq_def, updo.eq_def, hupo.eq_def, opSto1.eq_def, List.take_succ_cons, List.take_zero, W4.v]; rfl)
   refine .f (l1From_fc x.a x.b x.c x.d hx.1 hx.2.1 hx.2.2.1 hx.2.2.2) hb81 ?_ (ha := by simp (disch := first|omega|(simp only[ln];omega)) [idf_Wd', W4.v])
   refine .k 1 (fun fs7 hfs7 => ?_) (by simp (disch := first|omega|(simp only[ln];omega)) [runDf.eq_def, runF1, runF2, stepF.eq_def, updo.eq_def, hupo.eq_def, opSto1.eq_def, List.take_succ_cons, List.take_zero, W4.v]; rfl)
   refine .f (l1From_fc y.a y.b y.c y.d hy.1 hy.2.1 hy.2.2.1 hy.2.2.2) hb81 ?_ (ha := by simp (disch := first|omega|(simp only[ln];omega)) [idf_Wd', W4.v])
   refine .k 1 (fun fs8 hfs8 => ?_) (by simp (disch := first|omega|(simp only[ln];omega)) [runDf.eq_def, runF1, runF2, stepF.eq_def, updo.eq_def, hupo.eq_def, opSto1.eq_def, List.take_succ_cons, List.take_zero, W4.v]; rfl)
   refine .f (l1From_fc w.a w.b w.c w.d hw.1 hw.2.1 hw.2.2.1 hw.2.2.2) hb81 ?_ (ha := by simp (disch := first|omega|(simp only[ln];omega)) [idf_Wd', W4.v])
   refine .f (l3Make_fc x.v y.v w.v hne bX bY bW (by omega) (by omega)) hb146 ?_ (ha := by simp (disch := first|omega|(simp only[ln];omega)) [idf_Wd', W4.v])
   refine .f (l3Point_fc (nrm w.v x.v / gcd3 x.v y.v w.v) (nrm w.v y.v / gcd3 x.v y.v w.v) (nrm w.v w.v / gcd3 x.v y.v w.v) (bX.nrm.div hgp) (bY.nrm.div hgp) (bW.nrm.div hgp) (by omega)) hb145 ?_ (ha := by simp (disch := first|omega|(simp only[ln];omega)) [idf_Wd', W4.v])
   refine .k 2 (fun fs9 hfs9 => ?_) (by simp (disch := first|omega|(simp only[ln];omega)) [runDf.eq_def, runF1, runF2, stepF.eq_def, updo.eq_def, hupo.eq_def, opSto1.eq_def, List.take_succ_cons, List.take_zero, W4.v]; rfl)
   refine .r 10 (by simp only[ln, hfs6, hfs7, hfs8, hfs9];omega) ?_ (by simp (disch := first|omega|(simp only[ln];omega)) [runDf.eq_def, runF1, runF2, stepF.eq_def, updo.eq_def, hupo.eq_def, opSto1.eq_def, W4.v]; rfl)
   refine hK5 _ ?_
   refine .ret ?_
   exact hK _ _ _ _ trivial ((Fin.m).cast (by rw [mkP, mkB, if_neg hne, if_neg hne]; rfl))
end

end Go.Proofs.YtdcajfgeleopiaaGreat

/- Walks: points in order, between, crossings (both). -/
namespace Go.Proofs.YtdcajfgeleopiaaGreat
open Go Go.RowKit
set_option linter.unusedSimpArgs false
set_option linter.unusedVariables false
set_option maxRecDepth 100000
attribute [local simp] szT2 byT2 agT2 unT2 zoT2 szT4 byT4 agT4 unT4 zoT4 szT36 byT36 agT36 flT36 fdT36_0 fdT36_1 fdT36_2 fdT36_3 zoT36 szT38 byT38 agT38 flT38 fdT38_0 fdT38_1 fdT38_2 zoT38 szT71 byT71 agT71 elT71 unT71 zoT71 szT73 byT73 agT73 flT73 fdT73_0 fdT73_1 zoT73 szT75 byT75 agT75 flT75 fdT75_0 fdT75_1 fdT75_2 zoT75 szT86 byT86 agT86 elT86 unT86 zoT86 szT88 byT88 agT88 flT88 fdT88_0 fdT88_1 zoT88 szT90 byT90 agT90 flT90 fdT90_0 fdT90_1 fdT90_2 zoT90

theorem beqd (a b : Int) : (a == b) = decide (a = b) := by rw [Bool.eq_iff_iff]; simp
theorem eqW4n (n : Nat) (a b c d a' b' c' d' : Int) : eqW Tryz.prog (n + 2) 36 [.int .u64 a, .int .u64 b, .int .u64 c, .int .u64 d] [.int .u64 a', .int .u64 b', .int .u64 c', .int .u64 d'] = some ((a == a') && ((b == b') && ((c == c') && ((d == d') && true)))) := by
  have hs : Tryz.prog.stoodInHeld 36 = false := by kernel_rfl
  have hz : szOf Tryz.prog 25 = some 1 := by kernel_rfl
  have ha : aggT Tryz.prog 25 = some false := by kernel_rfl
  unfold eqW
  simp only [Tryz.underlying36, hs]
  simp [eqF, hz, ha, eqW1]
theorem eqPt (p q : Pt) : eqW Tryz.prog 8 38 [.int .u64 p.x.a, .int .u64 p.x.b, .int .u64 p.x.c, .int .u64 p.x.d, .int .u64 p.y.a, .int .u64 p.y.b, .int .u64 p.y.c, .int .u64 p.y.d, .int .u64 p.w.a, .int .u64 p.w.b, .int .u64 p.w.c, .int .u64 p.w.d] [.int .u64 q.x.a, .int .u64 q.x.b, .int .u64 q.x.c, .int .u64 q.x.d, .int .u64 q.y.a, .int .u64 q.y.b, .int .u64 q.y.c, .int .u64 q.y.d, .int .u64 q.w.a, .int .u64 q.w.b, .int .u64 q.w.c, .int .u64 q.w.d] = some (decide (p = q)) := by
  have hs : Tryz.prog.stoodInHeld 38 = false := by kernel_rfl
  have hz : szOf Tryz.prog 36 = some 4 := by kernel_rfl
  have ha : aggT Tryz.prog 36 = some true := by kernel_rfl
  unfold eqW
  simp only [Tryz.underlying38, hs]
  simp [eqF, hz, ha, eqW4n]
  obtain ⟨⟨a1, a2, a3, a4⟩, ⟨b1, b2, b3, b4⟩, ⟨c1, c2, c3, c4⟩⟩ := p
  obtain ⟨⟨d1, d2, d3, d4⟩, ⟨e1, e2, e3, e4⟩, ⟨f1, f2, f3, f4⟩⟩ := q
  rw [Bool.eq_iff_iff]
  simp [Pt.mk.injEq, W4.mk.injEq, and_assoc]
theorem cmV_self (p : Pt) : cmV p p = 0 := by
  have := cmV_anti p p; omega
theorem pteq_iff {p q : Pt} (hp : p.ok) (hq : q.ok) (gp : p.good = true) (gq : q.good = true) : pteq p q = decide (p = q) := by
  unfold pteq
  by_cases h : p = q
  · subst h; simp [cmV_self]
  · have : cmV p q ≠ 0 := fun e => h (cmV_zero hp hq gp gq e)
    simp [h, this]

section
attribute [local simp] idf_numS cells_numS numS_fold idf_numI cells_numI numI_fold Pt.av Pt.cells spA spC
set_option maxHeartbeats 2000000 in
theorem cmpPoints_fc (p q : Pt) (hp : p.ok) (hq : q.ok) : FC Tryz.prog 140 [p.av, q.av] (.int .i64 (cmV p q)) := by
 have pX := W4.bg hp.1
 have pY := W4.bg hp.2.1
 have pW := W4.bg hp.2.2
 have qX := W4.bg hq.1
 have qY := W4.bg hq.2.1
 have qW := W4.bg hq.2.2
 have hcx : FC Tryz.prog 46 [numI (p.x.v * q.w.v), numI (q.x.v * p.w.v)] (.int .i64 (cmX p q)) := cmp_fc (pX.mul qW) (qX.mul pW) (by omega) (by omega)
 have hcy : FC Tryz.prog 46 [numI (p.y.v * q.w.v), numI (q.y.v * p.w.v)] (.int .i64 (cmY p q)) := cmp_fc (pY.mul qW) (qY.mul pW) (by omega) (by omega)
 refine .b Tryz.func140 40 (fun nx K hK => ?_) (hi := by simp [idfL, idf, Pt.av, Pt.cells])
 refine .q ?_
 refine .sq fun K2 hK2 => ?_
 refine .q ?_ (by simp (disch := first|omega|(simp only[ln];omega)) [eqPt]; rfl)
 refine .c (t := decide (p = q)) (fun h10 => ?_) (fun h10 => ?_)
 ·try simp only[dc]at h10
  subst h10
  refine .q ?_
  refine .ret ?_
  exact hK _ _ _ _ trivial ((Fin.m).cast (by rw [cmV_self]))
 ·try simp only[dc]at h10
  refine .skip ?_
  refine hK2 _ ?_
  refine .sq fun K5 hK5 => ?_
  refine .old fun hold => ?_
  refine .d 6 ?_
  refine .k 1 (fun fs6 hfs6 => ?_)
  refine .f (spot_fc p hp) hb45 ?_
  refine DP.runF1q (by simp (disch := first|omega|(simp only[ln];omega)) [runDf.eq_def, runF1, runF2, stepF.eq_def, updo.eq_def, hupo.eq_def, opSto1.eq_def]; rfl) fun fq7 hfq7 => ?_
  simp [qids, asksB, Op.operands, topId] at hfq7
  simp only [updo]
  refine .f (spot_fc q hq) hb45 ?_
  refine .k 2 (fun fs8 hfs8 => ?_)
  refine DQ.sto1 (m := 6) [2] _ (by simp (disch := first|omega|(simp only[ln];omega)) [runDf.eq_def, runF1, runF2, stepF.eq_def, updo.eq_def, hupo.eq_def, opSto1.eq_def]; rfl) rfl (by simp only[ln, hfs6, hfs8];omega) (by kernel_rfl) (by intro k f hk hex; simp only [List.mem_cons, List.not_mem_nil, or_false] at hex; rcases hex with rfl <;> (simp [List.getElem?_append, hfs6, hfs8] at hk; subst hk; refine ⟨?_, by first | omega | (simp; done) | (simp; omega)⟩; simp [qids, asksB, Op.operands, Call.operands, topId, numS, numI, Wd, hfq7]; try omega)) ?_
  try simp only []
  refine DQ.sto1 (m := 6) [] _ (by simp (disch := first|omega|(simp only[ln];omega)) [runDf.eq_def, runF1, runF2, stepF.eq_def, updo.eq_def, hupo.eq_def, opSto1.eq_def]; rfl) rfl (by simp only[ln, hfs6, hfs8];omega) (by kernel_rfl) (by intro k f hk hex; simp only [List.not_mem_nil] at hex) ?_
  try simp only []
  refine hK5 _ ?_
  refine .sq fun K9 hK9 => ?_
  refine .sq fun K10 hK10 => ?_
  refine .d 11 ?_
  refine .k 4 (fun fs11 hfs11 => ?_)
  refine .f (by_fc pX qW (by omega) (by omega)) hb48 ?_
  refine .k 4 (fun fs12 hfs12 => ?_)
  refine .f (by_fc qX pW (by omega) (by omega)) hb48 ?_
  refine .f hcx hb46 ?_
  refine .r 11 (by simp only[ln, hfs11, hfs12];omega) ?_
  refine hK10 _ ?_
  refine .q ?_
  refine .c (t := cmX p q != 0) (fun h27 => ?_) (fun h27 => ?_) (by simp (disch := first|omega|(simp only[ln];omega)) [bne])
  ·try simp only[dc]at h27
   have hne : cmX p q ≠ 0 := by simpa using h27
   refine .q ?_
   refine .ret ?_
   exact hK _ _ _ _ trivial ((Fin.m).cast (by rw [cmV, if_pos hne]))
  ·try simp only[dc]at h27
   have hne : ¬ cmX p q ≠ 0 := by simpa using h27
   refine .skip ?_
   refine hK9 _ ?_
   refine .sq fun K15 hK15 => ?_
   refine .d 11 ?_
   refine .k 4 (fun fs16 hfs16 => ?_)
   refine .f (by_fc pY qW (by omega) (by omega)) hb48 ?_
   refine .k 4 (fun fs17 hfs17 => ?_)
   refine .f (by_fc qY pW (by omega) (by omega)) hb48 ?_
   refine .f hcy hb46 ?_
   refine .r 11 (by simp only[ln, hfs16, hfs17];omega) ?_
   refine hK15 _ ?_
   refine .ret ?_
   exact hK _ _ _ _ trivial ((Fin.m).cast (by rw [cmV, if_neg hne]))
end
section
attribute [local simp] idf_numS cells_numS numS_fold idf_numI cells_numI numI_fold Pt.av Pt.cells
set_option maxHeartbeats 2000000 in
theorem between_fc (p q r : Pt) (hp : p.ok) (hq : q.ok) (hr : r.ok) (gp : p.good = true) (gq : q.good = true) (gr : r.good = true) : FC Tryz.prog 88 [p.av, q.av, r.av] (.bool (btI p q r)) := by
 have e1 := pteq_iff hp hr gp gr
 have e2 := pteq_iff hq hr gq gr
 have b1 := cmV_b p r
 have b2 := cmV_b r q
 have hb : btI p q r = (decide (p = r) || decide (q = r) || (decide (0 < cmV p r * cmV r q) && decide (sg3 (det p q r) = 0))) := by unfold btI; rw [e1, e2]
 have hm : IntKind.i64.wrap (cmV p r * cmV r q) = cmV p r * cmV r q := by
   rcases (show cmV p r = -1 ∨ cmV p r = 0 ∨ cmV p r = 1 by omega) with h | h | h <;> rw [h] <;> exact wrap_i64s (by omega) (by omega)
 refine .b Tryz.func88 30 (fun nx K hK => ?_) (hi := by simp [idfL, idf, Pt.av, Pt.cells])
 refine .q ?_
 refine .sq fun K2 hK2 => ?_
 refine .sq fun K3 hK3 => ?_
 by_cases hpr : p = r
 ·have c1 : decide (p = r) = true := by simp [hpr]
  refine .r ?_ (by simp (disch := first|omega|(simp only[ln];omega)) [eqPt, c1]; rfl)
  refine hK3 _ ?_
  refine .c (fun h14 => ?_) (fun h14 => ?_)
  ·try simp only[dc]at h14
   refine .q ?_
   refine .ret ?_
   exact hK _ _ _ _ trivial ((Fin.m).cast (by rw [hb, c1]; rfl))
  ·simp at h14
 ·have c1 : decide (p = r) = false := by simp [hpr]
  refine .r ?_ (by simp (disch := first|omega|(simp only[ln];omega)) [eqPt, c1]; rfl)
  refine hK3 _ ?_
  refine .c (t := decide (q = r)) (fun h14 => ?_) (fun h14 => ?_)
  ·try simp only[dc]at h14
   refine .q ?_
   refine .ret ?_
   exact hK _ _ _ _ trivial ((Fin.m).cast (by rw [hb, decide_eq_true h14]; simp))
  ·try simp only[dc]at h14
   have c2 : decide (q = r) = false := decide_eq_false h14
   refine .skip ?_
   refine hK2 _ ?_
   refine .sq fun K6 hK6 => ?_
   cases hc : decide (0 < cmV p r * cmV r q)
   ·refine .d 15 ?_
    refine .k 2 (fun fs7 hfs7 => ?_) (by simp (disch := first|omega|(simp only[ln];omega)) [runDf.eq_def, runF1, runF2, stepF.eq_def, updo.eq_def, hupo.eq_def, opSto1.eq_def, List.take_succ_cons, List.take_zero, hm, hc]; rfl)
    refine .f (cmpPoints_fc p r hp hr) hb140 ?_ (ha := by simp (disch := first|omega|(simp only[ln];omega)) [idf_Wd', hm, hc])
    refine .k 2 (fun fs8 hfs8 => ?_) (by simp (disch := first|omega|(simp only[ln];omega)) [runDf.eq_def, runF1, runF2, stepF.eq_def, updo.eq_def, hupo.eq_def, opSto1.eq_def, List.take_succ_cons, List.take_zero, hm, hc]; rfl)
    refine .f (cmpPoints_fc r q hr hq) hb140 ?_ (ha := by simp (disch := first|omega|(simp only[ln];omega)) [idf_Wd', hm, hc])
    refine .k 9 (fun fs9 hfs9 => ?_) (by simp (disch := first|omega|(simp only[ln];omega)) [runDf.eq_def, runF1, runF2, stepF.eq_def, updo.eq_def, hupo.eq_def, opSto1.eq_def, List.take_succ_cons, List.take_zero, hm, hc]; rfl)
    refine .r 15 (by simp only[ln, hfs7, hfs8, hfs9];omega) ?_ (by simp (disch := first|omega|(simp only[ln];omega)) [runDf.eq_def, runF1, runF2, stepF.eq_def, updo.eq_def, hupo.eq_def, opSto1.eq_def, hm, hc]; rfl)
    refine hK6 _ ?_
    refine .ret ?_
    exact hK _ _ _ _ trivial ((Fin.m).cast (by rw [hb, c1, c2, hc]; rfl))
   ·refine .d 15 ?_
    refine .k 2 (fun fs10 hfs10 => ?_) (by simp (disch := first|omega|(simp only[ln];omega)) [runDf.eq_def, runF1, runF2, stepF.eq_def, updo.eq_def, hupo.eq_def, opSto1.eq_def, List.take_succ_cons, List.take_zero, hm, hc]; rfl)
    refine .f (cmpPoints_fc p r hp hr) hb140 ?_ (ha := by simp (disch := first|omega|(simp only[ln];omega)) [idf_Wd', hm, hc])
    refine .k 2 (fun fs11 hfs11 => ?_) (by simp (disch := first|omega|(simp only[ln];omega)) [runDf.eq_def, runF1, runF2, stepF.eq_def, updo.eq_def, hupo.eq_def, opSto1.eq_def, List.take_succ_cons, List.take_zero, hm, hc]; rfl)
    refine .f (cmpPoints_fc r q hr hq) hb140 ?_ (ha := by simp (disch := first|omega|(simp only[ln];omega)) [idf_Wd', hm, hc])
    refine .k 6 (fun fs12 hfs12 => ?_) (by simp (disch := first|omega|(simp only[ln];omega)) [runDf.eq_def, runF1, runF2, stepF.eq_def, updo.eq_def, hupo.eq_def, opSto1.eq_def, List.take_succ_cons, List.take_zero, hm, hc]; rfl)
    refine .f (turn_fc p q r hp hq hr) hb141 ?_ (ha := by simp (disch := first|omega|(simp only[ln];omega)) [idf_Wd', hm, hc])
    refine .k 2 (fun fs13 hfs13 => ?_) (by simp (disch := first|omega|(simp only[ln];omega)) [runDf.eq_def, runF1, runF2, stepF.eq_def, updo.eq_def, hupo.eq_def, opSto1.eq_def, List.take_succ_cons, List.take_zero, hm, hc]; rfl)
    refine .r 15 (by simp only[ln, hfs10, hfs11, hfs12, hfs13];omega) ?_ (by simp (disch := first|omega|(simp only[ln];omega)) [runDf.eq_def, runF1, runF2, stepF.eq_def, updo.eq_def, hupo.eq_def, opSto1.eq_def, hm, hc]; rfl)
    refine hK6 _ ?_
    refine .ret ?_
    exact hK _ _ _ _ trivial ((Fin.mk (r := .bool (sg3 (det p q r) == 0)) (by simp [aRes, aResL, aRes1])).cast (by rw [hb, c1, c2, hc]; simp [beqd]))
end
section
attribute [local simp] idf_numS cells_numS numS_fold idf_numI cells_numI numI_fold Pt.av Pt.cells spA spC
set_option maxHeartbeats 2000000 in
theorem crosses_fc (a b p : Pt) (ha : a.ok) (hb : b.ok) (hp : p.ok) : FC Tryz.prog 89 [a.av, b.av, p.av] (.bool (cuI a b p)) := by
 have aX := W4.bg ha.1
 have aY := W4.bg ha.2.1
 have aW := W4.bg ha.2.2
 have bX := W4.bg hb.1
 have bY := W4.bg hb.2.1
 have bW := W4.bg hb.2.2
 have pX := W4.bg hp.1
 have pY := W4.bg hp.2.1
 have pW := W4.bg hp.2.2
 have hca : FC Tryz.prog 46 [numI (a.y.v * p.w.v), numI (p.y.v * a.w.v)] (.int .i64 (cmY a p)) := cmp_fc (aY.mul pW) (pY.mul aW) (by omega) (by omega)
 have hcb : FC Tryz.prog 46 [numI (b.y.v * p.w.v), numI (p.y.v * b.w.v)] (.int .i64 (cmY b p)) := cmp_fc (bY.mul pW) (pY.mul bW) (by omega) (by omega)
 refine .b Tryz.func89 58 (fun nx K hK => ?_) (hi := by simp [idfL, idf, Pt.av, Pt.cells])
 refine .q ?_
 refine .sq fun K2 hK2 => ?_
 refine .old fun hold => ?_
 refine .d 9 ?_
 refine .k 1 (fun fs3 hfs3 => ?_)
 refine .f (spot_fc a ha) hb45 ?_
 refine DP.runF1q (by simp (disch := first|omega|(simp only[ln];omega)) [runDf.eq_def, runF1, runF2, stepF.eq_def, updo.eq_def, hupo.eq_def, opSto1.eq_def]; rfl) fun fq4 hfq4 => ?_
 simp [qids, asksB, Op.operands, topId] at hfq4
 simp only [updo]
 refine .f (spot_fc b hb) hb45 ?_
 refine DP.runF1q (by simp (disch := first|omega|(simp only[ln];omega)) [runDf.eq_def, runF1, runF2, stepF.eq_def, updo.eq_def, hupo.eq_def, opSto1.eq_def]; rfl) fun fq5 hfq5 => ?_
 simp [qids, asksB, Op.operands, topId] at hfq5
 simp only [updo]
 refine .f (spot_fc p hp) hb45 ?_
 refine .k 3 (fun fs6 hfs6 => ?_)
 refine DQ.sto1 (m := 9) [2, 3, 4] _ (by simp (disch := first|omega|(simp only[ln];omega)) [runDf.eq_def, runF1, runF2, stepF.eq_def, updo.eq_def, hupo.eq_def, opSto1.eq_def]; rfl) rfl (by simp only[ln, hfs3, hfs6];omega) (by kernel_rfl) (by intro k f hk hex; simp only [List.mem_cons, List.not_mem_nil, or_false] at hex; rcases hex with rfl | rfl | rfl <;> (simp [List.getElem?_append, hfs3, hfs6] at hk; subst hk; refine ⟨?_, by first | omega | (simp; done) | (simp; omega)⟩; simp [qids, asksB, Op.operands, Call.operands, topId, numS, numI, Wd, hfq4, hfq5]; try omega)) ?_
 try simp only []
 refine DQ.sto1 (m := 9) [4, 5] _ (by simp (disch := first|omega|(simp only[ln];omega)) [runDf.eq_def, runF1, runF2, stepF.eq_def, updo.eq_def, hupo.eq_def, opSto1.eq_def]; rfl) rfl (by simp only[ln, hfs3, hfs6];omega) (by kernel_rfl) (by intro k f hk hex; simp only [List.mem_cons, List.not_mem_nil, or_false] at hex; rcases hex with rfl | rfl <;> (simp [List.getElem?_append, hfs3, hfs6] at hk; subst hk; refine ⟨?_, by first | omega | (simp; done) | (simp; omega)⟩; simp [qids, asksB, Op.operands, Call.operands, topId, numS, numI, Wd, hfq4, hfq5]; try omega)) ?_
 try simp only []
 refine DQ.sto1 (m := 9) [] _ (by simp (disch := first|omega|(simp only[ln];omega)) [runDf.eq_def, runF1, runF2, stepF.eq_def, updo.eq_def, hupo.eq_def, opSto1.eq_def]; rfl) rfl (by simp only[ln, hfs3, hfs6];omega) (by kernel_rfl) (by intro k f hk hex; simp only [List.not_mem_nil] at hex) ?_
 try simp only []
 refine hK2 _ ?_
 refine .sq fun K7 hK7 => ?_
 refine .d 24 ?_
 refine .k 4 (fun fs8 hfs8 => ?_)
 refine .f (by_fc aY pW (by omega) (by omega)) hb48 ?_
 refine .k 4 (fun fs9 hfs9 => ?_)
 refine .f (by_fc pY aW (by omega) (by omega)) hb48 ?_
 refine .f hca hb46 ?_
 refine .k 5 (fun fs10 hfs10 => ?_)
 refine .f (by_fc bY pW (by omega) (by omega)) hb48 ?_
 refine .k 4 (fun fs11 hfs11 => ?_)
 refine .f (by_fc pY bW (by omega) (by omega)) hb48 ?_
 refine .f hcb hb46 ?_
 refine .k 1 (fun fs12 hfs12 => ?_)
 refine .r 24 (by simp only[ln, hfs8, hfs9, hfs10, hfs11, hfs12];omega) ?_
 refine hK7 _ ?_
 refine .sq fun K13 hK13 => ?_
 refine .block ?_
 refine .q ?_
 refine .c (t := decide (0 < cmY a p) == decide (0 < cmY b p)) (fun h42 => ?_) (fun h42 => ?_)
 ·try simp only[dc]at h42
  refine .q ?_
  refine .ret ?_
  exact hK _ _ _ _ trivial ((Fin.m).cast (by unfold cuI; rw [if_pos h42]))
 ·try simp only[dc]at h42
  refine .q ?_
  refine .c (t := decide (0 < cmY a p)) (fun h46 => ?_) (fun h46 => ?_)
  ·try simp only[dc]at h46
   refine .sq fun K17 hK17 => ?_
   refine .region ?_
   refine .kf 3 (turn_fc b a p hb ha hp) hb141 ?_
   refine .e ?_
   refine hK17 _ ?_
   refine .ret ?_
   exact hK _ _ _ _ trivial ((Fin.m).cast (by unfold cuI; rw [if_neg (by rw [h42]; simp), if_pos (by simpa using h46)]))
  ·try simp only[dc]at h46
   refine .skip ?_
   refine hK13 _ ?_
   refine .sq fun K18 hK18 => ?_
   refine .region ?_
   refine .kf 3 (turn_fc a b p ha hb hp) hb141 ?_
   refine .e ?_
   refine hK18 _ ?_
   refine .ret ?_
   exact hK _ _ _ _ trivial ((Fin.m).cast (by unfold cuI; rw [if_neg (by rw [h42]; simp), if_neg (by simpa using h46)]))
end
section
attribute [local simp] idf_numS cells_numS numS_fold idf_numI cells_numI numI_fold l3A l3C
theorem l3CmpX_fc (p q : Pt) (hp : p.ok) (hq : q.ok) : FC Tryz.prog 58 [l3A p.x.v p.y.v p.w.v, l3A q.x.v q.y.v q.w.v] (.int .i64 (cmX p q)) := by
 have pX := W4.bg hp.1
 have pY := W4.bg hp.2.1
 have pW := W4.bg hp.2.2
 have qX := W4.bg hq.1
 have qY := W4.bg hq.2.1
 have qW := W4.bg hq.2.2
 have hcx : FC Tryz.prog 75 [numS (p.x.v * q.w.v), numS (q.x.v * p.w.v)] (.int .i64 (cmX p q)) := l1Cmp_fc (pX.mul qW) (qX.mul pW) (by omega) (by omega)
 refine .b Tryz.func58 16 (fun nx K hK => ?_) (hi := by simp [idfL, idf, l3A, l3C, idf_Wd'])
 refine .q ?_
 refine .sq fun K2 hK2 => ?_
 refine .d 11 ?_
 refine .k 4 (fun fs3 hfs3 => ?_)
 refine .f (l1Mul_fc pX qW (by omega) (by omega)) hb113 ?_
 refine .k 4 (fun fs4 hfs4 => ?_)
 refine .f (l1Mul_fc qX pW (by omega) (by omega)) hb113 ?_
 refine .f hcx hb75 ?_
 refine .r 11 (by simp only[ln, hfs3, hfs4];omega) ?_
 refine hK2 _ ?_
 refine .ret ?_
 exact hK _ _ _ _ trivial (Fin.m)
theorem l3CmpY_fc (p q : Pt) (hp : p.ok) (hq : q.ok) : FC Tryz.prog 114 [l3A p.x.v p.y.v p.w.v, l3A q.x.v q.y.v q.w.v] (.int .i64 (cmY p q)) := by
 have pX := W4.bg hp.1
 have pY := W4.bg hp.2.1
 have pW := W4.bg hp.2.2
 have qX := W4.bg hq.1
 have qY := W4.bg hq.2.1
 have qW := W4.bg hq.2.2
 have hcy : FC Tryz.prog 75 [numS (p.y.v * q.w.v), numS (q.y.v * p.w.v)] (.int .i64 (cmY p q)) := l1Cmp_fc (pY.mul qW) (qY.mul pW) (by omega) (by omega)
 refine .b Tryz.func114 16 (fun nx K hK => ?_) (hi := by simp [idfL, idf, l3A, l3C, idf_Wd'])
 refine .q ?_
 refine .sq fun K2 hK2 => ?_
 refine .d 11 ?_
 refine .k 4 (fun fs3 hfs3 => ?_)
 refine .f (l1Mul_fc pY qW (by omega) (by omega)) hb113 ?_
 refine .k 4 (fun fs4 hfs4 => ?_)
 refine .f (l1Mul_fc qY pW (by omega) (by omega)) hb113 ?_
 refine .f hcy hb75 ?_
 refine .r 11 (by simp only[ln, hfs3, hfs4];omega) ?_
 refine hK2 _ ?_
 refine .ret ?_
 exact hK _ _ _ _ trivial (Fin.m)
theorem l3Cmp_fc (p q : Pt) (hp : p.ok) (hq : q.ok) : FC Tryz.prog 161 [l3A p.x.v p.y.v p.w.v, l3A q.x.v q.y.v q.w.v] (.int .i64 (cmV p q)) := by
 refine .b Tryz.func161 15 (fun nx K hK => ?_) (hi := by simp [idfL, idf, l3A, l3C, idf_Wd'])
 refine .q ?_
 refine .sq fun K2 hK2 => ?_
 refine .region ?_
 refine .kf 2 (l3CmpX_fc p q hp hq) hb58 ?_
 refine .e ?_
 refine hK2 _ ?_
 refine .sq fun K3 hK3 => ?_
 refine .q ?_
 refine .c (t := cmX p q != 0) (fun h10 => ?_) (fun h10 => ?_) (by simp (disch := first|omega|(simp only[ln];omega)) [bne])
 ·try simp only[dc]at h10
  have hne : cmX p q ≠ 0 := by simpa using h10
  refine .q ?_
  refine .ret ?_
  exact hK _ _ _ _ trivial ((Fin.m).cast (by rw [cmV, if_pos hne]))
 ·try simp only[dc]at h10
  have hne : ¬ cmX p q ≠ 0 := by simpa using h10
  refine .skip ?_
  refine hK3 _ ?_
  refine .sq fun K6 hK6 => ?_
  refine .region ?_
  refine .kf 2 (l3CmpY_fc p q hp hq) hb114 ?_
  refine .e ?_
  refine hK6 _ ?_
  refine .ret ?_
  exact hK _ _ _ _ trivial ((Fin.m).cast (by rw [cmV, if_neg hne]))
set_option maxHeartbeats 2000000 in
theorem l3Between_fc (p q r : Pt) (hp : p.ok) (hq : q.ok) (hr : r.ok) : FC Tryz.prog 129 [l3A p.x.v p.y.v p.w.v, l3A q.x.v q.y.v q.w.v, l3A r.x.v r.y.v r.w.v] (.bool (btS p q r)) := by
 refine .b Tryz.func129 30 (fun nx K hK => ?_) (hi := by simp [idfL, idf, l3A, l3C, idf_Wd'])
 refine .q ?_
 refine .sq fun K2 hK2 => ?_
 refine .sq fun K3 hK3 => ?_
 refine .region ?_
 refine .kf 2 (l3Cmp_fc p q hp hq) hb161 ?_
 refine .e ?_
 refine hK3 _ ?_
 refine .c (t := decide (0 < cmV p q)) (fun h10 => ?_) (fun h10 => ?_)
 ·try simp only[dc]at h10
  have hsw : cmV p q > 0 := by simpa using h10
  refine .r ?_
  refine hK2 _ ?_
  refine .sq fun K4 hK4 => ?_
  cases q1 : decide (cmV q r ≤ 0)
  ·refine .region ?_
   refine .kf 2 (l3Cmp_fc q r hq hr) hb161 ?_ (by simp (disch := first|omega|(simp only[ln];omega)) [List.take_succ_cons, List.take_zero, q1]; rfl) (ha := by simp (disch := first|omega|(simp only[ln];omega)) [idf_Wd', q1])
   refine .e ?_ (by simp (disch := first|omega|(simp only[ln];omega)) [q1]; rfl)
   refine hK4 _ ?_
   refine .ret ?_
   exact hK _ _ _ _ trivial ((Fin.m).cast (by rw [btS, if_pos hsw, q1]; rfl))
  ·cases q2 : decide (cmV r p ≤ 0)
   ·refine .region ?_
    refine .kf 2 (l3Cmp_fc q r hq hr) hb161 ?_ (by simp (disch := first|omega|(simp only[ln];omega)) [List.take_succ_cons, List.take_zero, q1, q2]; rfl) (ha := by simp (disch := first|omega|(simp only[ln];omega)) [idf_Wd', q1, q2])
    refine .kf 4 (l3Cmp_fc r p hr hp) hb161 ?_ (by simp (disch := first|omega|(simp only[ln];omega)) [List.take_succ_cons, List.take_zero, q1, q2]; rfl) (ha := by simp (disch := first|omega|(simp only[ln];omega)) [idf_Wd', q1, q2])
    refine .e ?_ (by simp (disch := first|omega|(simp only[ln];omega)) [q1, q2]; rfl)
    refine hK4 _ ?_
    refine .ret ?_
    exact hK _ _ _ _ trivial ((Fin.m).cast (by rw [btS, if_pos hsw, q1, q2]; rfl))
   ·refine .region ?_
    refine .kf 2 (l3Cmp_fc q r hq hr) hb161 ?_ (by simp (disch := first|omega|(simp only[ln];omega)) [List.take_succ_cons, List.take_zero, q1, q2]; rfl) (ha := by simp (disch := first|omega|(simp only[ln];omega)) [idf_Wd', q1, q2])
    refine .kf 4 (l3Cmp_fc r p hr hp) hb161 ?_ (by simp (disch := first|omega|(simp only[ln];omega)) [List.take_succ_cons, List.take_zero, q1, q2]; rfl) (ha := by simp (disch := first|omega|(simp only[ln];omega)) [idf_Wd', q1, q2])
    refine .kf 6 (l3Orient_fc q p r hq hp hr) hb130 ?_ (by simp (disch := first|omega|(simp only[ln];omega)) [List.take_succ_cons, List.take_zero, q1, q2]; rfl) (ha := by simp (disch := first|omega|(simp only[ln];omega)) [idf_Wd', q1, q2])
    refine .e ?_ (by simp (disch := first|omega|(simp only[ln];omega)) [q1, q2]; rfl)
    refine hK4 _ ?_
    refine .ret ?_
    exact hK _ _ _ _ trivial ((Fin.mk (r := .bool (sg3 (det q p r) == 0)) (by simp [aRes, aResL, aRes1])).cast (by rw [btS, if_pos hsw, q1, q2]; simp [beqd]))
 ·try simp only[dc]at h10
  have hsw : ¬ cmV p q > 0 := by simpa using h10
  refine .skip ?_
  refine hK2 _ ?_
  refine .sq fun K5 hK5 => ?_
  cases q1 : decide (cmV p r ≤ 0)
  ·refine .region ?_
   refine .kf 2 (l3Cmp_fc p r hp hr) hb161 ?_ (by simp (disch := first|omega|(simp only[ln];omega)) [List.take_succ_cons, List.take_zero, q1]; rfl) (ha := by simp (disch := first|omega|(simp only[ln];omega)) [idf_Wd', q1])
   refine .e ?_ (by simp (disch := first|omega|(simp only[ln];omega)) [q1]; rfl)
   refine hK5 _ ?_
   refine .ret ?_
   exact hK _ _ _ _ trivial ((Fin.m).cast (by rw [btS, if_neg hsw, q1]; rfl))
  ·cases q2 : decide (cmV r q ≤ 0)
   ·refine .region ?_
    refine .kf 2 (l3Cmp_fc p r hp hr) hb161 ?_ (by simp (disch := first|omega|(simp only[ln];omega)) [List.take_succ_cons, List.take_zero, q1, q2]; rfl) (ha := by simp (disch := first|omega|(simp only[ln];omega)) [idf_Wd', q1, q2])
    refine .kf 4 (l3Cmp_fc r q hr hq) hb161 ?_ (by simp (disch := first|omega|(simp only[ln];omega)) [List.take_succ_cons, List.take_zero, q1, q2]; rfl) (ha := by simp (disch := first|omega|(simp only[ln];omega)) [idf_Wd', q1, q2])
    refine .e ?_ (by simp (disch := first|omega|(simp only[ln];omega)) [q1, q2]; rfl)
    refine hK5 _ ?_
    refine .ret ?_
    exact hK _ _ _ _ trivial ((Fin.m).cast (by rw [btS, if_neg hsw, q1, q2]; rfl))
   ·refine .region ?_
    refine .kf 2 (l3Cmp_fc p r hp hr) hb161 ?_ (by simp (disch := first|omega|(simp only[ln];omega)) [List.take_succ_cons, List.take_zero, q1, q2]; rfl) (ha := by simp (disch := first|omega|(simp only[ln];omega)) [idf_Wd', q1, q2])
    refine .kf 4 (l3Cmp_fc r q hr hq) hb161 ?_ (by simp (disch := first|omega|(simp only[ln];omega)) [List.take_succ_cons, List.take_zero, q1, q2]; rfl) (ha := by simp (disch := first|omega|(simp only[ln];omega)) [idf_Wd', q1, q2])
    refine .kf 6 (l3Orient_fc p q r hp hq hr) hb130 ?_ (by simp (disch := first|omega|(simp only[ln];omega)) [List.take_succ_cons, List.take_zero, q1, q2]; rfl) (ha := by simp (disch := first|omega|(simp only[ln];omega)) [idf_Wd', q1, q2])
    refine .e ?_ (by simp (disch := first|omega|(simp only[ln];omega)) [q1, q2]; rfl)
    refine hK5 _ ?_
    refine .ret ?_
    exact hK _ _ _ _ trivial ((Fin.mk (r := .bool (sg3 (det p q r) == 0)) (by simp [aRes, aResL, aRes1])).cast (by rw [btS, if_neg hsw, q1, q2]; simp [beqd]))
set_option maxHeartbeats 2000000 in
theorem l5Cuts_fc (a b p : Pt) (ha : a.ok) (hb : b.ok) (hp : p.ok) : FC Tryz.prog 80 [l3A a.x.v a.y.v a.w.v, l3A b.x.v b.y.v b.w.v, l3A p.x.v p.y.v p.w.v] (.bool (cuS a b p)) := by
 refine .b Tryz.func80 30 (fun nx K hK => ?_) (hi := by simp [idfL, idf, l3A, l3C, idf_Wd'])
 refine .q ?_
 refine .sq fun K2 hK2 => ?_
 refine .sq fun K3 hK3 => ?_
 refine .region ?_
 refine .kf 2 (l3CmpY_fc b a hb ha) hb114 ?_
 refine .e ?_
 refine hK3 _ ?_
 refine .c (t := decide (cmY b a < 0)) (fun h10 => ?_) (fun h10 => ?_)
 ·try simp only[dc]at h10
  have hsw : cmY b a < 0 := by simpa using h10
  refine .r ?_
  refine hK2 _ ?_
  refine .sq fun K4 hK4 => ?_
  cases q1 : decide (cmY b p ≤ 0)
  ·refine .region ?_
   refine .kf 2 (l3CmpY_fc b p hb hp) hb114 ?_ (by simp (disch := first|omega|(simp only[ln];omega)) [List.take_succ_cons, List.take_zero, q1]; rfl) (ha := by simp (disch := first|omega|(simp only[ln];omega)) [idf_Wd', q1])
   refine .e ?_ (by simp (disch := first|omega|(simp only[ln];omega)) [q1]; rfl)
   refine hK4 _ ?_
   refine .ret ?_
   exact hK _ _ _ _ trivial ((Fin.m).cast (by rw [cuS, if_pos hsw, q1]; rfl))
  ·cases q2 : decide (cmY p a < 0)
   ·refine .region ?_
    refine .kf 2 (l3CmpY_fc b p hb hp) hb114 ?_ (by simp (disch := first|omega|(simp only[ln];omega)) [List.take_succ_cons, List.take_zero, q1, q2]; rfl) (ha := by simp (disch := first|omega|(simp only[ln];omega)) [idf_Wd', q1, q2])
    refine .kf 4 (l3CmpY_fc p a hp ha) hb114 ?_ (by simp (disch := first|omega|(simp only[ln];omega)) [List.take_succ_cons, List.take_zero, q1, q2]; rfl) (ha := by simp (disch := first|omega|(simp only[ln];omega)) [idf_Wd', q1, q2])
    refine .e ?_ (by simp (disch := first|omega|(simp only[ln];omega)) [q1, q2]; rfl)
    refine hK4 _ ?_
    refine .ret ?_
    exact hK _ _ _ _ trivial ((Fin.m).cast (by rw [cuS, if_pos hsw, q1, q2]; rfl))
   ·refine .region ?_
    refine .kf 2 (l3CmpY_fc b p hb hp) hb114 ?_ (by simp (disch := first|omega|(simp only[ln];omega)) [List.take_succ_cons, List.take_zero, q1, q2]; rfl) (ha := by simp (disch := first|omega|(simp only[ln];omega)) [idf_Wd', q1, q2])
    refine .kf 4 (l3CmpY_fc p a hp ha) hb114 ?_ (by simp (disch := first|omega|(simp only[ln];omega)) [List.take_succ_cons, List.take_zero, q1, q2]; rfl) (ha := by simp (disch := first|omega|(simp only[ln];omega)) [idf_Wd', q1, q2])
    refine .kf 6 (l3Orient_fc b a p hb ha hp) hb130 ?_ (by simp (disch := first|omega|(simp only[ln];omega)) [List.take_succ_cons, List.take_zero, q1, q2]; rfl) (ha := by simp (disch := first|omega|(simp only[ln];omega)) [idf_Wd', q1, q2])
    refine .e ?_ (by simp (disch := first|omega|(simp only[ln];omega)) [q1, q2]; rfl)
    refine hK4 _ ?_
    refine .ret ?_
    exact hK _ _ _ _ trivial ((Fin.mk (r := .bool (decide (0 < sg3 (det b a p)))) (by simp [aRes, aResL, aRes1])).cast (by rw [cuS, if_pos hsw, q1, q2]; simp [beqd]))
 ·try simp only[dc]at h10
  have hsw : ¬ cmY b a < 0 := by simpa using h10
  refine .skip ?_
  refine hK2 _ ?_
  refine .sq fun K5 hK5 => ?_
  cases q1 : decide (cmY a p ≤ 0)
  ·refine .region ?_
   refine .kf 2 (l3CmpY_fc a p ha hp) hb114 ?_ (by simp (disch := first|omega|(simp only[ln];omega)) [List.take_succ_cons, List.take_zero, q1]; rfl) (ha := by simp (disch := first|omega|(simp only[ln];omega)) [idf_Wd', q1])
   refine .e ?_ (by simp (disch := first|omega|(simp only[ln];omega)) [q1]; rfl)
   refine hK5 _ ?_
   refine .ret ?_
   exact hK _ _ _ _ trivial ((Fin.m).cast (by rw [cuS, if_neg hsw, q1]; rfl))
  ·cases q2 : decide (cmY p b < 0)
   ·refine .region ?_
    refine .kf 2 (l3CmpY_fc a p ha hp) hb114 ?_ (by simp (disch := first|omega|(simp only[ln];omega)) [List.take_succ_cons, List.take_zero, q1, q2]; rfl) (ha := by simp (disch := first|omega|(simp only[ln];omega)) [idf_Wd', q1, q2])
    refine .kf 4 (l3CmpY_fc p b hp hb) hb114 ?_ (by simp (disch := first|omega|(simp only[ln];omega)) [List.take_succ_cons, List.take_zero, q1, q2]; rfl) (ha := by simp (disch := first|omega|(simp only[ln];omega)) [idf_Wd', q1, q2])
    refine .e ?_ (by simp (disch := first|omega|(simp only[ln];omega)) [q1, q2]; rfl)
    refine hK5 _ ?_
    refine .ret ?_
    exact hK _ _ _ _ trivial ((Fin.m).cast (by rw [cuS, if_neg hsw, q1, q2]; rfl))
   ·refine .region ?_
    refine .kf 2 (l3CmpY_fc a p ha hp) hb114 ?_ (by simp (disch := first|omega|(simp only[ln];omega)) [List.take_succ_cons, List.take_zero, q1, q2]; rfl) (ha := by simp (disch := first|omega|(simp only[ln];omega)) [idf_Wd', q1, q2])
    refine .kf 4 (l3CmpY_fc p b hp hb) hb114 ?_ (by simp (disch := first|omega|(simp only[ln];omega)) [List.take_succ_cons, List.take_zero, q1, q2]; rfl) (ha := by simp (disch := first|omega|(simp only[ln];omega)) [idf_Wd', q1, q2])
    refine .kf 6 (l3Orient_fc a b p ha hb hp) hb130 ?_ (by simp (disch := first|omega|(simp only[ln];omega)) [List.take_succ_cons, List.take_zero, q1, q2]; rfl) (ha := by simp (disch := first|omega|(simp only[ln];omega)) [idf_Wd', q1, q2])
    refine .e ?_ (by simp (disch := first|omega|(simp only[ln];omega)) [q1, q2]; rfl)
    refine hK5 _ ?_
    refine .ret ?_
    exact hK _ _ _ _ trivial ((Fin.mk (r := .bool (decide (0 < sg3 (det a b p)))) (by simp [aRes, aResL, aRes1])).cast (by rw [cuS, if_neg hsw, q1, q2]; simp [beqd]))
end

end Go.Proofs.YtdcajfgeleopiaaGreat

/- Walks: fractions of the program. -/
namespace Go.Proofs.YtdcajfgeleopiaaGreat
open Go Go.RowKit
set_option linter.unusedSimpArgs false
set_option linter.unusedVariables false
set_option maxRecDepth 100000
attribute [local simp] szT4 byT4 agT4 unT4 zoT4 szT25 byT25 agT25 unT25 zoT25 szT86 byT86 agT86 elT86 unT86 zoT86 szT88 byT88 agT88 flT88 fdT88_0 fdT88_1 zoT88 szT96 byT96 agT96 flT96 fdT96_0 fdT96_1 zoT96

section
attribute [local simp] idf_numI cells_numI numI_fold
set_option maxHeartbeats 2000000 in
theorem over_fc {j : Nat} (a b : Int) (hb0 : b ≠ 0) (ha : Bg j a) (hb : Bg j b) (hj : j ≤ 16777216) : FC Tryz.prog 175 [numI a, numI b] (.tup [numI (a / b), numI (a % b)]) := by
 have hD := divWords_fc a.natAbs b.natAbs (by omega) (by have := ha.len; rw [mag_abs]; omega) (by have := hb.len; rw [mag_abs]; omega)
 rw [mag_abs, mag_abs] at hD
 have eu := eu_lem a b hb0
 generalize hq : ((a.natAbs / b.natAbs : Nat) : Int) = q0 at *
 generalize hr : ((a.natAbs % b.natAbs : Nat) : Int) = r0 at *
 have q0n : 0 ≤ q0 := by rw [← hq]; exact Int.natCast_nonneg _
 have r0n : 0 ≤ r0 := by rw [← hr]; exact Int.natCast_nonneg _
 have bq : Bg j q0 := by
   rw [← hq]; unfold Bg at *; rw [Int.natAbs_natCast]; have := Nat.div_le_self a.natAbs b.natAbs; omega
 have br : Bg j r0 := by
   rw [← hr]; unfold Bg at *; rw [Int.natAbs_natCast]; have := Nat.mod_le a.natAbs b.natAbs; omega
 have bqs : ∀ s, Bg j (sg s q0) := fun s => by cases s <;> simp only [sg_true, sg_false]; exact bq; exact bq.neg
 have brs : ∀ s, Bg j (sg s r0) := fun s => by cases s <;> simp only [sg_true, sg_false]; exact br; exact br.neg
 have lq := bq.len
 have lr := br.len
 have hT1 := made_fc (decide (a < 0) != decide (b < 0)) (mag q0) (by omega) (mag_dig _)
 rw [mag_val, Int.natAbs_of_nonneg q0n] at hT1
 have hT2 := made_fc (decide (a < 0)) (mag r0) (by omega) (mag_dig _)
 rw [mag_val, Int.natAbs_of_nonneg r0n] at hT2
 obtain ⟨S, hS⟩ : ∃ S, (decide (a < 0) != decide (b < 0)) = S := ⟨_, rfl⟩
 have hS2 : (decide (a < 0) == decide (b < 0)) = !S := by rw [← hS]; cases decide (a < 0) <;> cases decide (b < 0) <;> rfl
 rw [hS] at eu hT1
 refine .b Tryz.func175 45 (fun nx K hK => ?_)
 refine .q ?_
 refine .sq fun K2 hK2 => ?_
 refine .region ?_
 refine .kf 4 hD hb137 ?_
 refine .e ?_
 refine hK2 _ ?_
 refine .sq fun K3 hK3 => ?_
 refine .old fun hold => ?_
 refine .d 13 ?_
 refine .k 6 (fun fs4 hfs4 => ?_) (by simp (disch := first|omega|(simp only[ln];omega)) [runDf.eq_def, runF1, runF2, stepF.eq_def, updo.eq_def, hupo.eq_def, opSto1.eq_def, List.take_succ_cons, List.take_zero, hS2]; rfl)
 refine .f hT1 hb104 ?_ (ha := by simp (disch := first|omega|(simp only[ln];omega)) [idf_Wd', hS2])
 refine DP.runF1q (by simp (disch := first|omega|(simp only[ln];omega)) [runDf.eq_def, runF1, runF2, stepF.eq_def, updo.eq_def, hupo.eq_def, opSto1.eq_def, hS2]; rfl) fun fq5 hfq5 => ?_
 simp [qids, asksB, Op.operands, topId] at hfq5
 simp only [updo]
 refine DP.runF1q (by simp (disch := first|omega|(simp only[ln];omega)) [runDf.eq_def, runF1, runF2, stepF.eq_def, updo.eq_def, hupo.eq_def, opSto1.eq_def, hS2]; rfl) fun fq6 hfq6 => ?_
 simp [qids, asksB, Op.operands, topId] at hfq6
 simp only [updo]
 refine DP.runF1q (by simp (disch := first|omega|(simp only[ln];omega)) [runDf.eq_def, runF1, runF2, stepF.eq_def, updo.eq_def, hupo.eq_def, opSto1.eq_def, hS2]; rfl) fun fq7 hfq7 => ?_
 simp [qids, asksB, Op.operands, topId] at hfq7
 simp only [updo]
 refine .f hT2 hb104 ?_ (ha := by simp (disch := first|omega|(simp only[ln];omega)) [idf_Wd', hS2])
 refine .k 2 (fun fs8 hfs8 => ?_) (by simp (disch := first|omega|(simp only[ln];omega)) [runDf.eq_def, runF1, runF2, stepF.eq_def, updo.eq_def, hupo.eq_def, opSto1.eq_def, List.take_succ_cons, List.take_zero, hS2]; rfl)
 refine DQ.sto1 (m := 13) [7, 8, 9] _ (by simp (disch := first|omega|(simp only[ln];omega)) [runDf.eq_def, runF1, runF2, stepF.eq_def, updo.eq_def, hupo.eq_def, opSto1.eq_def, hS2]; rfl) rfl (by simp only[ln, hfs4, hfs8];omega) (by kernel_rfl) (by intro k f hk hex; simp only [List.mem_cons, List.not_mem_nil, or_false] at hex; rcases hex with rfl | rfl | rfl <;> (simp [List.getElem?_append, hfs4, hfs8] at hk; subst hk; refine ⟨?_, by first | omega | (simp; done) | (simp; omega)⟩; simp [qids, asksB, Op.operands, Call.operands, topId, numS, numI, Wd, hfq5, hfq6, hfq7]; try omega)) ?_
 try simp only []
 refine DQ.sto1 (m := 13) [] _ (by simp (disch := first|omega|(simp only[ln];omega)) [runDf.eq_def, runF1, runF2, stepF.eq_def, updo.eq_def, hupo.eq_def, opSto1.eq_def, hS2]; rfl) rfl (by simp only[ln, hfs4, hfs8];omega) (by kernel_rfl) (by intro k f hk hex; simp only [List.not_mem_nil] at hex) ?_
 try simp only []
 refine hK3 _ ?_
 refine .sq fun K9 hK9 => ?_
 refine .q ?_
 refine .c (t := decide (sg (decide (a < 0)) r0 < 0)) (fun h30 => ?_) (fun h30 => ?_)
 ·try simp only[dc]at h30
  refine .sq fun K11 hK11 => ?_
  refine .d 4 ?_
  refine .k 2 (fun fs12 hfs12 => ?_)
  refine .f (abs_fc b) hb177 ?_
  refine .f (plus_fc (brs (decide (a < 0))) hb.abs (by omega) (by omega)) hb51 ?_
  refine .r 4 (by simp only[ln, hfs12];omega) ?_
  refine hK11 _ ?_
  refine .q ?_
  refine .c (t := decide (b < 0)) (fun h36 => ?_) (fun h36 => ?_)
  ·try simp only[dc]at h36
   have e := eu.2.1 h30 h36
   refine .d 3 ?_
   refine .k 1 (fun fs14 hfs14 => ?_)
   refine .f (whole_fc 1 (by omega) (by omega)) hb47 ?_
   refine .f (plus_fc (bqs S) (Bg.i64 (n := 1) (by omega) (by omega)) (by omega) (by omega)) hb51 ?_
   refine .r 3 (by simp only[ln, hfs14];omega) ?_
   refine hK9 _ ?_
   refine .sq fun K15 hK15 => ?_
   refine .old fun hold => ?_
   refine .d 2 ?_
   refine .k 1 (fun fs16 hfs16 => ?_)
   refine DP.runF1q (by simp (disch := first|omega|(simp only[ln];omega)) [runDf.eq_def, runF1, runF2, stepF.eq_def, updo.eq_def, hupo.eq_def, opSto1.eq_def]; rfl) fun fq17 hfq17 => ?_
   simp [qids, asksB, Op.operands, topId] at hfq17
   simp only [updo]
   refine DQ.sto1 (m := 2) [1] _ (by simp (disch := first|omega|(simp only[ln];omega)) [runDf.eq_def, runF1, runF2, stepF.eq_def, updo.eq_def, hupo.eq_def, opSto1.eq_def]; rfl) rfl (by simp only[ln, hfs16];omega) (by kernel_rfl) (by intro k f hk hex; simp only [List.mem_cons, List.not_mem_nil, or_false] at hex; rcases hex with rfl <;> (simp [List.getElem?_append, hfs16] at hk; subst hk; refine ⟨?_, by first | omega | (simp; done) | (simp; omega)⟩; simp [qids, asksB, Op.operands, Call.operands, topId, numS, numI, Wd, hfq17]; try omega)) ?_
   try simp only []
   refine DQ.sto1 (m := 2) [] _ (by simp (disch := first|omega|(simp only[ln];omega)) [runDf.eq_def, runF1, runF2, stepF.eq_def, updo.eq_def, hupo.eq_def, opSto1.eq_def]; rfl) rfl (by simp only[ln, hfs16];omega) (by kernel_rfl) (by intro k f hk hex; simp only [List.not_mem_nil] at hex) ?_
   try simp only []
   refine hK15 _ ?_
   refine .ret ?_
   exact hK _ _ _ _ trivial ((Fin.m).cast (by rw [← e.1, ← e.2, show ((b.natAbs : Nat) : Int) = -b by omega, ← Int.sub_eq_add_neg]))
  ·try simp only[dc]at h36
   have e := eu.2.2 h30 h36
   refine .d 3 ?_
   refine .k 1 (fun fs18 hfs18 => ?_)
   refine .f (whole_fc 1 (by omega) (by omega)) hb47 ?_
   refine .f (less_fc (bqs S) (Bg.i64 (n := 1) (by omega) (by omega)) (by omega) (by omega)) hb50 ?_
   refine .r 3 (by simp only[ln, hfs18];omega) ?_
   refine hK9 _ ?_
   refine .sq fun K19 hK19 => ?_
   refine .old fun hold => ?_
   refine .d 2 ?_
   refine .k 1 (fun fs20 hfs20 => ?_)
   refine DP.runF1q (by simp (disch := first|omega|(simp only[ln];omega)) [runDf.eq_def, runF1, runF2, stepF.eq_def, updo.eq_def, hupo.eq_def, opSto1.eq_def]; rfl) fun fq21 hfq21 => ?_
   simp [qids, asksB, Op.operands, topId] at hfq21
   simp only [updo]
   refine DQ.sto1 (m := 2) [1] _ (by simp (disch := first|omega|(simp only[ln];omega)) [runDf.eq_def, runF1, runF2, stepF.eq_def, updo.eq_def, hupo.eq_def, opSto1.eq_def]; rfl) rfl (by simp only[ln, hfs20];omega) (by kernel_rfl) (by intro k f hk hex; simp only [List.mem_cons, List.not_mem_nil, or_false] at hex; rcases hex with rfl <;> (simp [List.getElem?_append, hfs20] at hk; subst hk; refine ⟨?_, by first | omega | (simp; done) | (simp; omega)⟩; simp [qids, asksB, Op.operands, Call.operands, topId, numS, numI, Wd, hfq21]; try omega)) ?_
   try simp only []
   refine DQ.sto1 (m := 2) [] _ (by simp (disch := first|omega|(simp only[ln];omega)) [runDf.eq_def, runF1, runF2, stepF.eq_def, updo.eq_def, hupo.eq_def, opSto1.eq_def]; rfl) rfl (by simp only[ln, hfs20];omega) (by kernel_rfl) (by intro k f hk hex; simp only [List.not_mem_nil] at hex) ?_
   try simp only []
   refine hK19 _ ?_
   refine .ret ?_
   exact hK _ _ _ _ trivial ((Fin.m).cast (by rw [← e.1, ← e.2, show ((b.natAbs : Nat) : Int) = b by omega]))
 ·try simp only[dc]at h30
  have e := eu.1 h30
  refine .skip ?_
  refine hK9 _ ?_
  refine .sq fun K22 hK22 => ?_
  refine .old fun hold => ?_
  refine .d 2 ?_
  refine .k 1 (fun fs23 hfs23 => ?_)
  refine DP.runF1q (by simp (disch := first|omega|(simp only[ln];omega)) [runDf.eq_def, runF1, runF2, stepF.eq_def, updo.eq_def, hupo.eq_def, opSto1.eq_def]; rfl) fun fq24 hfq24 => ?_
  simp [qids, asksB, Op.operands, topId] at hfq24
  simp only [updo]
  refine DQ.sto1 (m := 2) [1] _ (by simp (disch := first|omega|(simp only[ln];omega)) [runDf.eq_def, runF1, runF2, stepF.eq_def, updo.eq_def, hupo.eq_def, opSto1.eq_def]; rfl) rfl (by simp only[ln, hfs23];omega) (by kernel_rfl) (by intro k f hk hex; simp only [List.mem_cons, List.not_mem_nil, or_false] at hex; rcases hex with rfl <;> (simp [List.getElem?_append, hfs23] at hk; subst hk; refine ⟨?_, by first | omega | (simp; done) | (simp; omega)⟩; simp [qids, asksB, Op.operands, Call.operands, topId, numS, numI, Wd, hfq24]; try omega)) ?_
  try simp only []
  refine DQ.sto1 (m := 2) [] _ (by simp (disch := first|omega|(simp only[ln];omega)) [runDf.eq_def, runF1, runF2, stepF.eq_def, updo.eq_def, hupo.eq_def, opSto1.eq_def]; rfl) rfl (by simp only[ln, hfs23];omega) (by kernel_rfl) (by intro k f hk hex; simp only [List.not_mem_nil] at hex) ?_
  try simp only []
  refine hK22 _ ?_
  refine .ret ?_
  exact hK _ _ _ _ trivial ((Fin.m).cast (by rw [e.1, e.2]))
end
section
attribute [local simp] idf_numI cells_numI numI_fold rtA rtC
set_option maxHeartbeats 2000000 in
theorem rcmp_fc {j : Nat} (a b c d : Int) (ba : Bg j a) (bb : Bg j b) (bc : Bg j c) (bd : Bg j d) (hj : j ≤ 16777216) : FC Tryz.prog 55 [rtA a b, rtA c d] (.int .i64 (cm (a * d) (c * b))) := by
 have hc : FC Tryz.prog 46 [numI (a * d), numI (c * b)] (.int .i64 (cm (a * d) (c * b))) := cmp_fc (ba.mul bd) (bc.mul bb) (by omega) (by omega)
 refine .b Tryz.func55 16 (fun nx K hK => ?_)
 refine .q ?_
 refine .sq fun K2 hK2 => ?_
 refine .d 11 ?_
 refine .k 4 (fun fs3 hfs3 => ?_)
 refine .f (by_fc ba bd (by omega) (by omega)) hb48 ?_
 refine .k 4 (fun fs4 hfs4 => ?_)
 refine .f (by_fc bc bb (by omega) (by omega)) hb48 ?_
 refine .f hc hb46 ?_
 refine .r 11 (by simp only[ln, hfs3, hfs4];omega) ?_
 refine hK2 _ ?_
 refine .ret ?_
 exact hK _ _ _ _ trivial (Fin.m)
end

end Go.Proofs.YtdcajfgeleopiaaGreat

/- Walks: spots and segments. -/
namespace Go.Proofs.YtdcajfgeleopiaaGreat
open Go Go.RowKit
set_option linter.unusedSimpArgs false
set_option linter.unusedVariables false
set_option maxRecDepth 100000
attribute [local simp] szT2 byT2 agT2 unT2 zoT2 szT3 byT3 agT3 unT3 zoT3 szT36 byT36 agT36 flT36 fdT36_0 fdT36_1 fdT36_2 fdT36_3 zoT36 szT38 byT38 agT38 flT38 fdT38_0 fdT38_1 fdT38_2 zoT38 szT53 byT53 agT53 flT53 fdT53_0 fdT53_1 zoT53 szT55 byT55 agT55 flT55 fdT55_0 fdT55_1 zoT55 szT123 byT123 agT123 flT123 fdT123_0 fdT123_1 zoT123

theorem within_i (n a b : Int) : (decide (a ≤ n) && decide (n ≤ b)) = (decide (n ≥ a) && decide (n ≤ b)) := rfl
theorem eqW2 (p q : Sp) : eqW Tryz.prog 8 53 [.int .i64 p.x, .int .i64 p.y] [.int .i64 q.x, .int .i64 q.y] = some (decide (p = q)) := by
  obtain ⟨a, b⟩ := p
  obtain ⟨a', b'⟩ := q
  have hs : Tryz.prog.stoodInHeld 53 = false := by kernel_rfl
  have hz : szOf Tryz.prog 2 = some 1 := by kernel_rfl
  have ha : aggT Tryz.prog 2 = some false := by kernel_rfl
  have e1 : ∀ (n : Nat) (x y : Int), eqW Tryz.prog (n + 1) 2 [.int .i64 x] [.int .i64 y] = some (x == y) := fun n x y => by
    unfold eqW
    simp only [Tryz.underlying2]
    first | rfl | simp [eqF]
  unfold eqW
  simp only [Tryz.underlying53, hs]
  simp [eqF, hz, ha, e1]
  rw [Bool.eq_iff_iff]
  simp
theorem lsS_dec (p q : Sp) : decide (cmS p q < 0) = lsS p q := by rw [Bool.eq_iff_iff, decide_eq_true_eq]; exact cmS_neg
theorem wdZ_l {n : Int} (hf : fits n = true) : wdZ n = .agg (W4z n).l := by
  have e := wdT_l n
  unfold wdT at e
  rw [if_pos hf] at e; exact e
theorem wideOf4_fc (n : Int) (h1 : -9223372036854775808 ≤ n) (h2 : n ≤ 9223372036854775807) (hf : fits n = true) : FC Tryz.prog 139 [.int .i64 n] (.agg [.int .u64 (W4z n).a, .int .u64 (W4z n).b, .int .u64 (W4z n).c, .int .u64 (W4z n).d]) := by
  have h := wideOf_fc n h1 h2
  rw [wdZ_l hf] at h; exact h
theorem inM_fits {x : Int} (h : inM x = true) : fits x = true := by
  have := inM_b h; unfold fits; simp; omega
theorem sm1 {x y : Int} (hx : inM x = true) (hy : inM y = true) : sm x y 1 = true := by
  have := inM_b hx; have := inM_b hy
  have e : (2 : Nat) ^ 80 = 1208925819614629174706176 := by decide
  simp only [sm, Bool.and_eq_true, decide_eq_true_eq, bitLen_le, e]; omega

theorem within_fc (n a b : Int) : FC Tryz.prog 67 [.int .i64 n, .int .i64 a, .int .i64 b] (.bool (decide (a ≤ n) && decide (n ≤ b))) := by
 refine .b Tryz.func67 15 (fun nx K hK => ?_)
 refine .q ?_
 refine .sq fun K2 hK2 => ?_
 cases h : decide (a ≤ n)
 ·refine .r ?_ (by simp (disch := first|omega|(simp only[ln];omega)) [h]; rfl)
  refine hK2 _ ?_
  refine .ret ?_
  exact hK _ _ _ _ trivial ((Fin.m).cast (by rw [h]; rfl))
 ·refine .r ?_ (by simp (disch := first|omega|(simp only[ln];omega)) [h]; rfl)
  refine hK2 _ ?_
  refine .ret ?_
  exact hK _ _ _ _ trivial ((Fin.m).cast (by rw [h]; rfl))
theorem withinM_fc (n : Int) : FC Tryz.prog 67 [.int .i64 n, .int .i64 (-1000000), .int .i64 1000000] (.bool (inM n)) := within_fc n (-1000000) 1000000
section
attribute [local simp] Sp.av Sp.cells Sg.av Sg.cells
theorem spotOkI_fc (p : Sp) : FC Tryz.prog 116 [p.av] (.bool p.good) := by
 refine .b Tryz.func116 11 (fun nx K hK => ?_) (hi := by simp [idfL, idf, Sp.av, Sp.cells, Sg.av, Sg.cells])
 refine .q ?_
 refine .sq fun K2 hK2 => ?_
 cases hx : inM p.x
 ·refine .region ?_
  refine .kf 2 (withinM_fc p.x) hb67 ?_ (by simp (disch := first|omega|(simp only[ln];omega)) [List.take_succ_cons, List.take_zero, hx]; rfl) (ha := by simp (disch := first|omega|(simp only[ln];omega)) [idf_Wd', hx])
  refine .e ?_ (by simp (disch := first|omega|(simp only[ln];omega)) [hx]; rfl)
  refine hK2 _ ?_
  refine .ret ?_
  exact hK _ _ _ _ trivial ((Fin.m).cast (by unfold Sp.good; rw [hx]; rfl))
 ·refine .region ?_
  refine .kf 2 (withinM_fc p.x) hb67 ?_ (by simp (disch := first|omega|(simp only[ln];omega)) [List.take_succ_cons, List.take_zero, hx]; rfl) (ha := by simp (disch := first|omega|(simp only[ln];omega)) [idf_Wd', hx])
  refine .kf 3 (withinM_fc p.y) hb67 ?_ (by simp (disch := first|omega|(simp only[ln];omega)) [List.take_succ_cons, List.take_zero, hx]; rfl) (ha := by simp (disch := first|omega|(simp only[ln];omega)) [idf_Wd', hx])
  refine .e ?_ (by simp (disch := first|omega|(simp only[ln];omega)) [hx]; rfl)
  refine hK2 _ ?_
  refine .ret ?_
  exact hK _ _ _ _ trivial ((Fin.m).cast (by unfold Sp.good; rw [hx]; rfl))
theorem cmpSpots_fc (p q : Sp) : FC Tryz.prog 117 [p.av, q.av] (.int .i64 (cmS p q)) := by
 refine .b Tryz.func117 29 (fun nx K hK => ?_) (hi := by simp [idfL, idf, Sp.av, Sp.cells, Sg.av, Sg.cells])
 refine .q ?_
 refine .sq fun K2 hK2 => ?_
 refine .block ?_
 refine .q ?_ (by simp (disch := first|omega|(simp only[ln];omega)) [eqW2]; rfl)
 refine .c (t := decide (p = q)) (fun h5 => ?_) (fun h5 => ?_)
 ·try simp only[dc]at h5
  refine .q ?_
  refine .ret ?_
  exact hK _ _ _ _ trivial ((Fin.m).cast (by unfold cmS; rw [if_pos h5]))
 ·try simp only[dc]at h5
  have hv : cmS p q = if lsS p q = true then -1 else 1 := by unfold cmS; rw [if_neg h5]
  refine .sq fun K5 hK5 => ?_
  by_cases q1 : p.x < q.x
  ·have hl : lsS p q = true := by simp [lsS, q1]
   have c1 : decide (p.x < q.x) = true := by simp [q1]
   refine .r ?_ (by simp (disch := first|omega|(simp only[ln];omega)) [c1]; rfl)
   refine hK5 _ ?_
   refine .c (fun h9 => ?_) (fun h9 => ?_)
   ·try simp only[dc]at h9
    refine .q ?_
    refine .ret ?_
    exact hK _ _ _ _ trivial ((Fin.m).cast (by rw [hv, hl]; rfl))
   ·simp at h9
  ·have c1 : decide (p.x < q.x) = false := by simp; omega
   by_cases q2 : p.x = q.x
   ·have c2 : (p.x == q.x) = true := by simp [q2]
    refine .r ?_ (by simp (disch := first|omega|(simp only[ln];omega)) [c1, c2]; rfl)
    refine hK5 _ ?_
    refine .c (t := decide (p.y < q.y)) (fun h9 => ?_) (fun h9 => ?_)
    ·try simp only[dc]at h9
     refine .q ?_
     refine .ret ?_
     exact hK _ _ _ _ trivial ((Fin.m).cast (by rw [hv, show lsS p q = true by simp [lsS, q2, h9]]; rfl))
    ·try simp only[dc]at h9
     refine .skip ?_
     refine hK2 _ ?_
     refine .q ?_
     refine .ret ?_
     exact hK _ _ _ _ trivial ((Fin.m).cast (by rw [hv, show lsS p q = false by simp [lsS, q2]; omega]; rfl))
   ·have c2 : (p.x == q.x) = false := by simp [q2]
    refine .r ?_ (by simp (disch := first|omega|(simp only[ln];omega)) [c1, c2]; rfl)
    refine hK5 _ ?_
    refine .c (fun h9 => ?_) (fun h9 => ?_)
    ·simp at h9
    ·try simp only[dc]at h9
     refine .skip ?_
     refine hK2 _ ?_
     refine .q ?_
     refine .ret ?_
     exact hK _ _ _ _ trivial ((Fin.m).cast (by rw [hv, show lsS p q = false by simp [lsS, q2]; omega]; rfl))
theorem segOkI_fc (s : Sg) : FC Tryz.prog 61 [s.av] (.bool s.good) := by
 refine .b Tryz.func61 19 (fun nx K hK => ?_) (hi := by simp [idfL, idf, Sp.av, Sp.cells, Sg.av, Sg.cells])
 refine .q ?_
 refine .sq fun K2 hK2 => ?_
 cases ha : s.a.good
 ·refine .region ?_
  refine .kf 2 (spotOkI_fc s.a) hb116 ?_ (by simp (disch := first|omega|(simp only[ln];omega)) [List.take_succ_cons, List.take_zero, ha]; rfl) (ha := by simp (disch := first|omega|(simp only[ln];omega)) [idf_Wd', ha])
  refine .e ?_ (by simp (disch := first|omega|(simp only[ln];omega)) [ha]; rfl)
  refine hK2 _ ?_
  refine .ret ?_
  exact hK _ _ _ _ trivial ((Fin.m).cast (by unfold Sg.good; rw [ha]; rfl))
 ·cases hb : s.b.good
  ·refine .region ?_
   refine .kf 2 (spotOkI_fc s.a) hb116 ?_ (by simp (disch := first|omega|(simp only[ln];omega)) [List.take_succ_cons, List.take_zero, ha, hb]; rfl) (ha := by simp (disch := first|omega|(simp only[ln];omega)) [idf_Wd', ha, hb])
   refine .kf 3 (spotOkI_fc s.b) hb116 ?_ (by simp (disch := first|omega|(simp only[ln];omega)) [List.take_succ_cons, List.take_zero, ha, hb]; rfl) (ha := by simp (disch := first|omega|(simp only[ln];omega)) [idf_Wd', ha, hb])
   refine .e ?_ (by simp (disch := first|omega|(simp only[ln];omega)) [ha, hb]; rfl)
   refine hK2 _ ?_
   refine .ret ?_
   exact hK _ _ _ _ trivial ((Fin.m).cast (by unfold Sg.good; rw [ha, hb]; rfl))
  ·refine .region ?_
   refine .kf 2 (spotOkI_fc s.a) hb116 ?_ (by simp (disch := first|omega|(simp only[ln];omega)) [List.take_succ_cons, List.take_zero, ha, hb, lsS_dec]; rfl) (ha := by simp (disch := first|omega|(simp only[ln];omega)) [idf_Wd', ha, hb, lsS_dec])
   refine .kf 3 (spotOkI_fc s.b) hb116 ?_ (by simp (disch := first|omega|(simp only[ln];omega)) [List.take_succ_cons, List.take_zero, ha, hb, lsS_dec]; rfl) (ha := by simp (disch := first|omega|(simp only[ln];omega)) [idf_Wd', ha, hb, lsS_dec])
   refine .kf 6 (cmpSpots_fc s.a s.b) hb117 ?_ (by simp (disch := first|omega|(simp only[ln];omega)) [List.take_succ_cons, List.take_zero, ha, hb, lsS_dec]; rfl) (ha := by simp (disch := first|omega|(simp only[ln];omega)) [idf_Wd', ha, hb, lsS_dec])
   refine .e ?_ (by simp (disch := first|omega|(simp only[ln];omega)) [ha, hb, lsS_dec]; rfl)
   refine hK2 _ ?_
   refine .ret ?_
   exact hK _ _ _ _ trivial ((Fin.m).cast (by unfold Sg.good; rw [ha, hb]; rfl))
set_option maxHeartbeats 1000000 in
theorem cross_fc (a b c : Sp) (ha : a.good = true) (hb : b.good = true) (hc : c.good = true) : FC Tryz.prog 165 [a.av, b.av, c.av] (.int .i64 (crs a b c)) := by
 have pa := Sp.b ha
 have pb := Sp.b hb
 have pc := Sp.b hc
 have m1 := mul_b (u := b.x - a.x) (v := c.y - a.y) (m := 2000000) (n := 2000000) (by omega) (by omega) (by omega) (by omega) (by omega)
 have m2 := mul_b (u := b.y - a.y) (v := c.x - a.x) (m := 2000000) (n := 2000000) (by omega) (by omega) (by omega) (by omega) (by omega)
 refine .b Tryz.func165 30 (fun nx K hK => ?_) (hi := by simp [idfL, idf, Sp.av, Sp.cells, Sg.av, Sg.cells])
 refine .q ?_
 refine .q ?_
 refine .ret ?_
 exact hK _ _ _ _ trivial ((Fin.m).cast (by rfl))
end
theorem signI_fc (n : Int) : FC Tryz.prog 56 [.int .i64 n] (.int .i64 (sg3 n)) := by
 refine .b Tryz.func56 9 (fun nx K hK => ?_)
 refine .q ?_
 refine .sq fun K2 hK2 => ?_
 refine .block ?_
 refine .q ?_
 refine .c (t := decide (n < 0)) (fun h3 => ?_) (fun h3 => ?_)
 ·try simp only[dc]at h3
  refine .q ?_
  refine .ret ?_
  exact hK _ _ _ _ trivial ((Fin.m).cast (by unfold sg3; rw [if_pos h3]))
 ·try simp only[dc]at h3
  refine .q ?_
  refine .c (t := decide (0 < n)) (fun h6 => ?_) (fun h6 => ?_)
  ·try simp only[dc]at h6
   refine .q ?_
   refine .ret ?_
   exact hK _ _ _ _ trivial ((Fin.m).cast (by unfold sg3; rw [if_neg h3, if_pos h6]))
  ·try simp only[dc]at h6
   refine .skip ?_
   refine hK2 _ ?_
   refine .q ?_
   refine .ret ?_
   exact hK _ _ _ _ trivial ((Fin.m).cast (by unfold sg3; rw [if_neg h3, if_neg h6]))
section
attribute [local simp] Sp.av Sp.cells Sg.av Sg.cells
theorem pointOfI_fc (p : Sp) (hp : p.good = true) : FC Tryz.prog 87 [p.av] (.agg [.int .u64 (ptS p).x.a, .int .u64 (ptS p).x.b, .int .u64 (ptS p).x.c, .int .u64 (ptS p).x.d, .int .u64 (ptS p).y.a, .int .u64 (ptS p).y.b, .int .u64 (ptS p).y.c, .int .u64 (ptS p).y.d, .int .u64 (ptS p).w.a, .int .u64 (ptS p).w.b, .int .u64 (ptS p).w.c, .int .u64 (ptS p).w.d]) := by
 have pb := Sp.b hp
 have hx : inM p.x = true := by simp [inM]; omega
 have hy : inM p.y = true := by simp [inM]; omega
 have hs := sm1 hx hy
 refine .b Tryz.func87 11 (fun nx K hK => ?_) (hi := by simp [idfL, idf, Sp.av, Sp.cells, Sg.av, Sg.cells])
 refine .q ?_
 refine .sq fun K2 hK2 => ?_
 refine .d 8 ?_
 refine .k 2 (fun fs3 hfs3 => ?_)
 refine .f (wideOf4_fc p.x (by omega) (by omega) (inM_fits hx)) hb139 ?_
 refine .k 2 (fun fs4 hfs4 => ?_)
 refine .f (wideOf4_fc p.y (by omega) (by omega) (inM_fits hy)) hb139 ?_
 refine .f (wideOf4_fc 1 (by omega) (by omega) (by decide)) hb139 ?_
 refine .k 1 (fun fs5 hfs5 => ?_)
 refine .r 8 (by simp only[ln, hfs3, hfs4, hfs5];omega) ?_
 refine hK2 _ ?_
 refine .ret ?_
 exact hK _ _ _ _ trivial ((Fin.m).cast (by rw [ptS, pt3, if_pos hs]))
theorem toSpot_fc (p : Sp) : FC Tryz.prog 82 [p.av] (.agg [.int .i64 p.x, .int .i64 p.y]) := by
 refine .b Tryz.func82 11 (fun nx K hK => ?_) (hi := by simp [idfL, idf, Sp.av, Sp.cells, Sg.av, Sg.cells])
 refine .q ?_
 refine .q ?_
 refine .q ?_
 refine .q ?_
 refine .q ?_
 refine .ret ?_
 exact hK _ _ _ _ trivial (Fin.m)
end

end Go.Proofs.YtdcajfgeleopiaaGreat

/- Walks: where segments meet, by the program. -/
namespace Go.Proofs.YtdcajfgeleopiaaGreat
open Go Go.RowKit
set_option linter.unusedSimpArgs false
set_option linter.unusedVariables false
set_option maxRecDepth 100000
attribute [local simp] szT2 byT2 agT2 unT2 zoT2 szT4 byT4 agT4 unT4 zoT4 szT25 byT25 agT25 unT25 zoT25 szT36 byT36 agT36 flT36 fdT36_0 fdT36_1 fdT36_2 fdT36_3 zoT36 szT38 byT38 agT38 flT38 fdT38_0 fdT38_1 fdT38_2 zoT38 szT86 byT86 agT86 elT86 unT86 zoT86 szT88 byT88 agT88 flT88 fdT88_0 fdT88_1 zoT88 szT90 byT90 agT90 flT90 fdT90_0 fdT90_1 fdT90_2 zoT90 szT173 byT173 agT173 elT173 unT173 zoT173

theorem mx_fold (a b : Int) : (if a < b then b else a) = mx a b := rfl
theorem mn_fold (a b : Int) : (if b < a then b else a) = mn a b := rfl
theorem max_sm2 (x y w : Int) : decide (80 < (if (if bitLen x.natAbs < bitLen y.natAbs then (bitLen y.natAbs : Int) else (bitLen x.natAbs : Int)) < (bitLen w.natAbs : Int) then (bitLen w.natAbs : Int) else if bitLen x.natAbs < bitLen y.natAbs then (bitLen y.natAbs : Int) else (bitLen x.natAbs : Int))) = !sm x y w := by
  rw [← max_sm]
  generalize (if (if bitLen x.natAbs < bitLen y.natAbs then (bitLen y.natAbs : Int) else (bitLen x.natAbs : Int)) < (bitLen w.natAbs : Int) then (bitLen w.natAbs : Int) else if bitLen x.natAbs < bitLen y.natAbs then (bitLen y.natAbs : Int) else (bitLen x.natAbs : Int)) = m
  rw [Bool.eq_iff_iff]; simp
theorem gcd3_x (x y w : Int) : gcd3 x y w ∣ x := Int.dvd_trans (by unfold gcd3; exact Int.ofNat_dvd.2 (Nat.gcd_dvd_left _ _)) (Int.gcd_dvd_left (a := x) (b := y))
theorem gcd3_y (x y w : Int) : gcd3 x y w ∣ y := Int.dvd_trans (by unfold gcd3; exact Int.ofNat_dvd.2 (Nat.gcd_dvd_left _ _)) (Int.gcd_dvd_right (a := x) (b := y))
theorem gcd3_w (x y w : Int) : gcd3 x y w ∣ w := by unfold gcd3; exact Int.dvd_natAbs.1 (Int.ofNat_dvd.2 (Nat.gcd_dvd_right _ _))
theorem div_nrm {x y w z g : Int} (hg : gcd3 x y w = g) (hz : g ∣ z) : z / (if w < 0 then -g else g) = nrm w z / g := by
  unfold nrm; split
  · rw [Int.ediv_neg, Int.neg_ediv_of_dvd hz]
  · rfl

section
attribute [local simp] idf_numI cells_numI numI_fold spA spC numC
set_option maxHeartbeats 4000000 in
theorem spotPoint_fc {j : Nat} (x y w : Int) (bx : Bg j x) (bY : Bg j y) (bw : Bg j w) (hj : j ≤ 16777216) : FC Tryz.prog 166 [spA x y w] (.tup [.agg [.int .u64 (mkP x y w).x.a, .int .u64 (mkP x y w).x.b, .int .u64 (mkP x y w).x.c, .int .u64 (mkP x y w).x.d, .int .u64 (mkP x y w).y.a, .int .u64 (mkP x y w).y.b, .int .u64 (mkP x y w).y.c, .int .u64 (mkP x y w).y.d, .int .u64 (mkP x y w).w.a, .int .u64 (mkP x y w).w.b, .int .u64 (mkP x y w).w.c, .int .u64 (mkP x y w).w.d], .bool (mkB x y w)]) := by
 obtain ⟨cs, hsf, hse⟩ : ∃ c : Int, FC Tryz.prog 84 [numI w] (.int .i64 c) ∧ (c == 0) = decide (w = 0) := ⟨_, sign_fc w, by
   by_cases h : w = 0
   · subst h; rfl
   · have : (if w < 0 then (-1 : Int) else if w > 0 then 1 else 0) ≠ 0 := by split <;> (try split) <;> omega
     rw [beq_eq_false_iff_ne.2 this]; simp [h]⟩
 refine .b Tryz.func166 80 (fun nx K hK => ?_)
 refine .q ?_
 refine .sq fun K2 hK2 => ?_
 refine .sq fun K3 hK3 => ?_
 refine .region ?_
 refine .kf 2 hsf hb84 ?_
 refine .e ?_
 refine hK3 _ ?_
 refine .c (t := decide (w = 0)) (fun h15 => ?_) (fun h15 => ?_) (by simp (disch := first|omega|(simp only[ln];omega)) [hse])
 ·try simp only[dc]at h15
  refine .q ?_
  refine .ret ?_
  exact hK _ _ _ _ trivial ((Fin.m).cast (by unfold mkP mkB; rw [if_pos h15, if_pos h15]; rfl))
 ·try simp only[dc]at h15
  have hw : w ≠ 0 := h15
  have hgp := gcd3_pos (x := x) (y := y) hw
  have hgx := gcd3_x x y w
  have hgy := gcd3_y x y w
  have hgw := gcd3_w x y w
  have eP : mkP x y w = pt3 (nrm w x / gcd3 x y w) (nrm w y / gcd3 x y w) (nrm w w / gcd3 x y w) := by unfold mkP; rw [if_neg hw]
  have eB : mkB x y w = sm (nrm w x / gcd3 x y w) (nrm w y / gcd3 x y w) (nrm w w / gcd3 x y w) := by unfold mkB; rw [if_neg hw]
  have bG : Bg j (gcd3 x y w) := by
    have b1 : Bg j ((Int.gcd x y : Nat) : Int) := Bg.gcd bx.abs bY.abs
    exact Bg.gcd b1 bw.abs
  have hg2 : FC Tryz.prog 86 [.isl [numC x, numC y, numC w]] (numI (gcd3 x y w)) := by
    have h := gcd_fc (j := j) [x, y, w] (by intro z hz; simp only [List.mem_cons, List.not_mem_nil, or_false] at hz; rcases hz with rfl | rfl | rfl <;> assumption) (by omega) (by simp)
    rw [gcdL_three] at h; exact h
  generalize hgg : gcd3 x y w = g at *
  have bX := (bx.nrm (w := w)).div hgp
  have bYY := (bY.nrm (w := w)).div hgp
  have bW := (bw.nrm (w := w)).div hgp
  refine .skip ?_
  refine hK2 _ ?_
  refine .sq fun K5 hK5 => ?_
  refine .region ?_
  refine .k 7 ?_
  refine AOPS.frz1 23 (nx + 1 + 1) 2 [numC x, numC y, numC w] (.isl [numC x, numC y, numC w]) (by simp [numC]) (by simp [fz, numC]) ?_
  refine .f hg2 hb86 ?_
  refine .e ?_
  refine hK5 _ ?_
  refine .sq fun K6 hK6 => ?_
  have J6 : ∀ s : St, (∃ D : Int, D = (if w < 0 then -g else g) ∧ s.env 1 = .ptr nx 0 0 ∧ s.env 2 = .ptr (nx + 1) 0 0 ∧ s.env 4 = .ptr (nx + 1 + 1 + 1) 0 0 ∧ s.env 3 = .bool false ∧ s.heap nx = some (6, [[.bool (decide (x < 0)), Wd .u64 (mag x), .bool (decide (y < 0)), Wd .u64 (mag y), .bool (decide (w < 0)), Wd .u64 (mag w)]]) ∧ s.heap (nx + 1) = some (12, [[.int .u64 0, .int .u64 0, .int .u64 0, .int .u64 0, .int .u64 0, .int .u64 0, .int .u64 0, .int .u64 0, .int .u64 0, .int .u64 0, .int .u64 0, .int .u64 0]]) ∧ s.heap (nx + 1 + 1 + 1) = some (2, [[.bool (decide (D < 0)), Wd .u64 (mag (D))]]) ∧ nx + 1 + 1 + 1 < s.nx ∧ s.nt = 80) → K6 s := by
   rintro ⟨e, H, mm, nt⟩ ⟨D, hD, h1, h2, h4, h3, hA, hB, hC, hm, rfl⟩
   simp only [] at h1 h2 h4 h3 hA hB hC hm
   have dX := div_nrm hgg hgx
   have dY := div_nrm hgg hgy
   have dW := div_nrm hgg hgw
   rw [← hD] at dX dY dW
   have bD : Bg j D := by rw [hD]; split; exact bG.neg; exact bG
   have hDn : D ≠ 0 := by rw [hD]; split <;> omega
   have ox := over_fc x D hDn bx bD hj
   have oy := over_fc y D hDn bY bD hj
   have ow := over_fc w D hDn bw bD hj
   rw [dX] at ox
   rw [dY] at oy
   rw [dW] at ow
   generalize nrm w x / g = X at *
   generalize nrm w y / g = Y at *
   generalize nrm w w / g = W at *
   have hms := max_sm2 X Y W
   have w1 := wide_fc bX (by omega)
   have w2 := wide_fc bYY (by omega)
   have w3 := wide_fc bW (by omega)
   rw [wdT_l] at w1 w2 w3
   unfold W4.l at w1 w2 w3
   clear dX dY dW
   refine hK6 _ ?_
   refine .sq fun K7 hK7 => ?_
   refine .region ?_
   refine .kf 3 ox hb175 ?_ (by simp (disch := first|omega|(simp only[ln];omega)) [List.take_succ_cons, List.take_zero, h1, h4, hA, hC]; rfl) (ha := by simp (disch := first|omega|(simp only[ln];omega)) [idf_Wd', h1, h4, hA, hC])
   refine .e ?_ (by simp (disch := first|omega|(simp only[ln];omega)) [h1, h4, hA, hC]; rfl)
   refine hK7 _ ?_
   refine .sq fun K8 hK8 => ?_
   refine .region ?_
   refine .kf 3 oy hb175 ?_ (by simp (disch := first|omega|(simp only[ln];omega)) [List.take_succ_cons, List.take_zero, h1, h4, hA, hC]; rfl) (ha := by simp (disch := first|omega|(simp only[ln];omega)) [idf_Wd', h1, h4, hA, hC])
   refine .e ?_ (by simp (disch := first|omega|(simp only[ln];omega)) [h1, h4, hA, hC]; rfl)
   refine hK8 _ ?_
   refine .sq fun K9 hK9 => ?_
   refine .region ?_
   refine .kf 3 ow hb175 ?_ (by simp (disch := first|omega|(simp only[ln];omega)) [List.take_succ_cons, List.take_zero, h1, h4, hA, hC]; rfl) (ha := by simp (disch := first|omega|(simp only[ln];omega)) [idf_Wd', h1, h4, hA, hC])
   refine .e ?_ (by simp (disch := first|omega|(simp only[ln];omega)) [h1, h4, hA, hC]; rfl)
   refine hK9 _ ?_
   refine .sq fun K10 hK10 => ?_
   refine .sq fun K11 hK11 => ?_
   refine .d 8 ?_
   refine .k 1 (fun fs12 hfs12 => ?_) (by simp (disch := first|omega|(simp only[ln];omega)) [runDf.eq_def, runF1, runF2, stepF.eq_def, updo.eq_def, hupo.eq_def, opSto1.eq_def, List.take_succ_cons, List.take_zero, hms]; rfl)
   refine .f (size_fc bX (by omega)) hb85 ?_ (ha := by simp (disch := first|omega|(simp only[ln];omega)) [idf_Wd', hms])
   refine .k 1 (fun fs13 hfs13 => ?_) (by simp (disch := first|omega|(simp only[ln];omega)) [runDf.eq_def, runF1, runF2, stepF.eq_def, updo.eq_def, hupo.eq_def, opSto1.eq_def, List.take_succ_cons, List.take_zero, hms]; rfl)
   refine .f (size_fc bYY (by omega)) hb85 ?_ (ha := by simp (disch := first|omega|(simp only[ln];omega)) [idf_Wd', hms])
   refine .k 1 (fun fs14 hfs14 => ?_) (by simp (disch := first|omega|(simp only[ln];omega)) [runDf.eq_def, runF1, runF2, stepF.eq_def, updo.eq_def, hupo.eq_def, opSto1.eq_def, List.take_succ_cons, List.take_zero, hms]; rfl)
   refine .f (size_fc bW (by omega)) hb85 ?_ (ha := by simp (disch := first|omega|(simp only[ln];omega)) [idf_Wd', hms])
   refine .k 2 (fun fs15 hfs15 => ?_) (by simp (disch := first|omega|(simp only[ln];omega)) [runDf.eq_def, runF1, runF2, stepF.eq_def, updo.eq_def, hupo.eq_def, opSto1.eq_def, List.take_succ_cons, List.take_zero, hms]; rfl)
   refine .r 8 (by simp only[ln, hfs12, hfs13, hfs14, hfs15];omega) ?_ (by simp (disch := first|omega|(simp only[ln];omega)) [runDf.eq_def, runF1, runF2, stepF.eq_def, updo.eq_def, hupo.eq_def, opSto1.eq_def, hms]; rfl)
   refine hK11 _ ?_
   refine .c (t := !sm X Y W) (fun h58 => ?_) (fun h58 => ?_)
   ·try simp only[dc]at h58
    have hb : sm X Y W = false := by simpa using h58
    refine .q ?_ (by simp (disch := first|omega|(simp only[ln];omega)) [h2, hB]; rfl)
    refine .ret ?_
    exact hK _ _ _ _ trivial ((Fin.mk (by simp (disch := omega) [aRes, aResL, aRes1, h2]; rfl)).cast (by rw [eP, eB, pt3, hb]; rfl))
   ·try simp only[dc]at h58
    have hb : sm X Y W = true := by simpa using h58
    refine .skip ?_
    refine hK10 _ ?_
    refine .q ?_
    refine .sq fun K18 hK18 => ?_
    refine .region ?_
    refine .kf 1 w1 hb170 ?_
    refine .e ?_
    refine hK18 _ ?_
    refine .sq fun K19 hK19 => ?_
    refine .region ?_
    refine .kf 1 w2 hb170 ?_
    refine .e ?_
    refine hK19 _ ?_
    refine .sq fun K20 hK20 => ?_
    refine .region ?_
    refine .kf 1 w3 hb170 ?_
    refine .e ?_
    refine hK20 _ ?_
    refine .q ?_ (by simp (disch := first|omega|(simp only[ln];omega)) [h2, hB]; rfl)
    refine .ret ?_
    exact hK _ _ _ _ trivial ((Fin.mk (by simp (disch := omega) [aRes, aResL, aRes1, h2]; rfl)).cast (by rw [eP, eB, pt3, if_pos hb, hb]))
  refine .q ?_
  refine .c (t := decide (w < 0)) (fun h27 => ?_) (fun h27 => ?_)
  ·try simp only[dc]at h27
   refine .region ?_
   refine .kf 1 (minus_fc bG (by omega)) hb107 ?_
   refine .e ?_
   refine J6 _ ?_
   exact ⟨-g, by simp [h27], by simp, by simp, by simp, by simp, by simp (disch := omega), by simp (disch := omega), by simp (disch := omega), by simp, rfl⟩
  ·try simp only[dc]at h27
   refine .skip ?_
   refine J6 _ ?_
   exact ⟨g, by simp [h27], by simp, by simp, by simp, by simp, by simp (disch := omega), by simp (disch := omega), by simp (disch := omega), by simp, rfl⟩
end
section
attribute [local simp] idf_numI cells_numI numI_fold
theorem none_fc  : FC Tryz.prog 164 [] (.tup [.int .i64 0, .agg [.int .u64 (pt0).x.a, .int .u64 (pt0).x.b, .int .u64 (pt0).x.c, .int .u64 (pt0).x.d, .int .u64 (pt0).y.a, .int .u64 (pt0).y.b, .int .u64 (pt0).y.c, .int .u64 (pt0).y.d, .int .u64 (pt0).w.a, .int .u64 (pt0).w.b, .int .u64 (pt0).w.c, .int .u64 (pt0).w.d], .agg [.int .u64 (pt0).x.a, .int .u64 (pt0).x.b, .int .u64 (pt0).x.c, .int .u64 (pt0).x.d, .int .u64 (pt0).y.a, .int .u64 (pt0).y.b, .int .u64 (pt0).y.c, .int .u64 (pt0).y.d, .int .u64 (pt0).w.a, .int .u64 (pt0).w.b, .int .u64 (pt0).w.c, .int .u64 (pt0).w.d]]) := by
 refine .b Tryz.func164 5 (fun nx K hK => ?_)
 refine .q ?_
 refine .q ?_
 refine .ret ?_
 exact hK _ _ _ _ trivial ((Fin.m).cast (by rfl))
end

end Go.Proofs.YtdcajfgeleopiaaGreat

/- Walks: where segments meet, by the program (2). -/
namespace Go.Proofs.YtdcajfgeleopiaaGreat
open Go Go.RowKit
set_option linter.unusedSimpArgs false
set_option linter.unusedVariables false
set_option maxRecDepth 100000
attribute [local simp] szT2 byT2 agT2 unT2 zoT2 szT3 byT3 agT3 unT3 zoT3 szT4 byT4 agT4 unT4 zoT4 szT36 byT36 agT36 flT36 fdT36_0 fdT36_1 fdT36_2 fdT36_3 zoT36 szT38 byT38 agT38 flT38 fdT38_0 fdT38_1 fdT38_2 zoT38 szT53 byT53 agT53 flT53 fdT53_0 fdT53_1 zoT53 szT55 byT55 agT55 flT55 fdT55_0 fdT55_1 zoT55 szT86 byT86 agT86 elT86 unT86 zoT86 szT88 byT88 agT88 flT88 fdT88_0 fdT88_1 zoT88 szT90 byT90 agT90 flT90 fdT90_0 fdT90_1 fdT90_2 zoT90

theorem hbNone : hasBody Tryz.prog 164 = true := by kernel_rfl
theorem mul_sg (a b : Int) : -1 ≤ sg3 a * sg3 b ∧ sg3 a * sg3 b ≤ 1 := by
  have := sg3_b a; have := sg3_b b
  have := mul_b (u := sg3 a) (v := sg3 b) (m := 1) (n := 1) (by omega) (by omega) (by omega) (by omega) (by omega)
  omega
theorem lsS_dec2 (p q : Sp) : decide (0 < cmS p q) = lsS q p := by rw [Bool.eq_iff_iff, decide_eq_true_eq]; exact cmS_pos
theorem cmS_deq (p q : Sp) : (cmS p q == 0) = decide (p = q) := by rw [Bool.eq_iff_iff, beq_iff_eq, decide_eq_true_eq]; exact cmS_zero

section
attribute [local simp] idf_numI cells_numI numI_fold Sp.av Sp.cells Sg.av Sg.cells spA spC
set_option maxHeartbeats 8000000 in
theorem meetI_fc (u v : Sg) (gu : u.good = true) (gv : v.good = true) : FC Tryz.prog 135 [u.av, v.av] (.tup [.int .i64 (meetI u v).1, .agg [.int .u64 ((meetI u v).2.1).x.a, .int .u64 ((meetI u v).2.1).x.b, .int .u64 ((meetI u v).2.1).x.c, .int .u64 ((meetI u v).2.1).x.d, .int .u64 ((meetI u v).2.1).y.a, .int .u64 ((meetI u v).2.1).y.b, .int .u64 ((meetI u v).2.1).y.c, .int .u64 ((meetI u v).2.1).y.d, .int .u64 ((meetI u v).2.1).w.a, .int .u64 ((meetI u v).2.1).w.b, .int .u64 ((meetI u v).2.1).w.c, .int .u64 ((meetI u v).2.1).w.d], .agg [.int .u64 ((meetI u v).2.2).x.a, .int .u64 ((meetI u v).2.2).x.b, .int .u64 ((meetI u v).2.2).x.c, .int .u64 ((meetI u v).2.2).x.d, .int .u64 ((meetI u v).2.2).y.a, .int .u64 ((meetI u v).2.2).y.b, .int .u64 ((meetI u v).2.2).y.c, .int .u64 ((meetI u v).2.2).y.d, .int .u64 ((meetI u v).2.2).w.a, .int .u64 ((meetI u v).2.2).w.b, .int .u64 ((meetI u v).2.2).w.c, .int .u64 ((meetI u v).2.2).w.d]]) := by
 have ua := good_a gu
 have ub := good_b gu
 have va := good_a gv
 have vb := good_b gv
 have pua := Sp.b ua
 have pub := Sp.b ub
 have pva := Sp.b va
 have pvb := Sp.b vb
 obtain ⟨A, hA⟩ : ∃ A, crs u.a u.b v.a = A := ⟨_, rfl⟩
 obtain ⟨B, hB⟩ : ∃ B, crs u.a u.b v.b = B := ⟨_, rfl⟩
 obtain ⟨C, hC⟩ : ∃ C, crs v.a v.b u.a = C := ⟨_, rfl⟩
 obtain ⟨D, hD⟩ : ∃ D, crs v.a v.b u.b = D := ⟨_, rfl⟩
 have cA := cross_fc u.a u.b v.a ua ub va
 have cB := cross_fc u.a u.b v.b ua ub vb
 have cC := cross_fc v.a v.b u.a va vb ua
 have cD := cross_fc v.a v.b u.b va vb ub
 have bA := crs_b ua ub va
 have bB := crs_b ua ub vb
 rw [hA] at cA bA
 rw [hB] at cB bB
 rw [hC] at cC
 rw [hD] at cD
 have hnw : noWay u v = (decide (0 < sg3 A * sg3 B) || decide (0 < sg3 C * sg3 D)) := by unfold noWay; rw [hA, hB, hC, hD]
 have hmt : apart u v = true → meetI u v = (0, pt0, pt0) := fun h => by unfold meetI; rw [if_pos h]
 have hmf : apart u v = false → meetI u v = if A = 0 ∧ B = 0 then linP u v else if noWay u v = true then (0, pt0, pt0) else (1, mkP (wayX u v) (wayY u v) (wayW u v), pt0) := fun h => by unfold meetI; rw [h, hA, hB]; rfl
 have hap : apart u v = (decide (mn u.b.x v.b.x < mx u.a.x v.a.x) || decide (mn (mx u.a.y u.b.y) (mx v.a.y v.b.y) < mx (mn u.a.y u.b.y) (mn v.a.y v.b.y))) := rfl
 have eW : wayW u v = A - B := by unfold wayW; rw [hA, hB]
 have eX : wayX u v = v.a.x * (A - B) + A * (v.b.x - v.a.x) := by unfold wayX; rw [eW, hA]
 have eY : wayY u v = v.a.y * (A - B) + A * (v.b.y - v.a.y) := by unfold wayY; rw [eW, hA]
 have sAB := mul_sg A B
 have sCD := mul_sg C D
 clear hA hB hC hD
 refine .b Tryz.func135 215 (fun nx K hK => ?_) (hi := by simp [idfL, idf, Sp.av, Sp.cells, Sg.av, Sg.cells])
 refine .q ?_
 refine .q ?_
 refine .sq fun K3 hK3 => ?_
 refine .sq fun K4 hK4 => ?_
 cases q1 : decide (mn u.b.x v.b.x < mx u.a.x v.a.x)
 ·refine .r ?_ (by simp (disch := first|omega|(simp only[ln];omega)) [mx_fold, mn_fold, q1]; rfl)
  refine hK4 _ ?_
  refine .c (t := decide (mn (mx u.a.y u.b.y) (mx v.a.y v.b.y) < mx (mn u.a.y u.b.y) (mn v.a.y v.b.y))) (fun h67 => ?_) (fun h67 => ?_)
  ·try simp only[dc]at h67
   have hm := hmt (by rw [hap, decide_eq_true h67]; simp)
   refine .sq fun K5 hK5 => ?_
   refine .region ?_
   refine .k 1 ?_
   refine AOPS.fcall (none_fc) rfl rfl (by simp; rfl) hbNone (by simp (disch := first|omega|(simp only[ln];omega)) [idf_Wd']) (by simp (disch := first|omega|(simp only[ln];omega))) (by simp) ?_
   simp only [puts_some, updo]
   refine .e ?_
   refine hK5 _ ?_
   refine .ret ?_
   exact hK _ _ _ _ trivial ((Fin.m).cast (by rw [hm]; try rfl))
  ·try simp only[dc]at h67
   have hm := hmf (by rw [hap, q1, decide_eq_false h67]; rfl)
   refine .skip ?_
   refine hK3 _ ?_
   refine .sq fun K6 hK6 => ?_
   refine .d 14 ?_
   refine .k 6 (fun fs7 hfs7 => ?_)
   refine .f cA hb165 ?_
   refine .k 6 (fun fs8 hfs8 => ?_)
   refine .f cB hb165 ?_
   refine .r 14 (by simp only[ln, hfs7, hfs8];omega) ?_
   refine hK6 _ ?_
   refine .sq fun K9 hK9 => ?_
   refine .sq fun K10 hK10 => ?_
   by_cases hA0 : A = 0
   ·have c1 : (A == 0) = true := by simp [hA0]
    by_cases hB0 : B = 0
    ·have c2 : (B == 0) = true := by simp [hB0]
     have hm' := hm
     rw [if_pos ⟨hA0, hB0⟩] at hm'
     refine .r ?_ (by simp (disch := first|omega|(simp only[ln];omega)) [c1, c2]; rfl)
     refine hK10 _ ?_
     refine .c (fun h92 => ?_) (fun h92 => ?_)
     ·try simp only[dc]at h92
      refine .sq fun K11 hK11 => ?_
      refine .old fun hold => ?_
      refine .d 6 ?_
      refine .k 2 (fun fs12 hfs12 => ?_)
      refine DP.runF1q (by simp (disch := first|omega|(simp only[ln];omega)) [runDf.eq_def, runF1, runF2, stepF.eq_def, updo.eq_def, hupo.eq_def, opSto1.eq_def]; rfl) fun fq13 hfq13 => ?_
      simp [qids, asksB, Op.operands, topId] at hfq13
      simp only [updo]
      refine DP.runF1q (by simp (disch := first|omega|(simp only[ln];omega)) [runDf.eq_def, runF1, runF2, stepF.eq_def, updo.eq_def, hupo.eq_def, opSto1.eq_def]; rfl) fun fq14 hfq14 => ?_
      simp [qids, asksB, Op.operands, topId] at hfq14
      simp only [updo]
      refine .k 2 (fun fs15 hfs15 => ?_)
      refine DQ.sto1 (m := 6) [2, 3] _ (by simp (disch := first|omega|(simp only[ln];omega)) [runDf.eq_def, runF1, runF2, stepF.eq_def, updo.eq_def, hupo.eq_def, opSto1.eq_def]; rfl) rfl (by simp only[ln, hfs12, hfs15];omega) (by kernel_rfl) (by intro k f hk hex; simp only [List.mem_cons, List.not_mem_nil, or_false] at hex; rcases hex with rfl | rfl <;> (simp [List.getElem?_append, hfs12, hfs15] at hk; subst hk; refine ⟨?_, by first | omega | (simp; done) | (simp; omega)⟩; simp [qids, asksB, Op.operands, Call.operands, topId, numS, numI, Wd, hfq13, hfq14]; try omega)) ?_
      try simp only []
      refine DQ.sto1 (m := 6) [] _ (by simp (disch := first|omega|(simp only[ln];omega)) [runDf.eq_def, runF1, runF2, stepF.eq_def, updo.eq_def, hupo.eq_def, opSto1.eq_def]; rfl) rfl (by simp only[ln, hfs12, hfs15];omega) (by kernel_rfl) (by intro k f hk hex; simp only [List.not_mem_nil] at hex) ?_
      try simp only []
      refine hK11 _ ?_
      refine .sq fun K16 hK16 => ?_
      have J16 : ∀ s : St, (∃ (lo hi : Sp) (ia ib : Nat), lo = lowS u v ∧ hi = u.b ∧ s.env 2 = .ptr nx 0 0 ∧ s.env 3 = .ptr (nx + 1) 0 0 ∧ s.env 5 = .ptr (nx + 1 + 1) 0 0 ∧ s.env 6 = .ptr (nx + 1 + 1 + 1) 0 0 ∧ s.env 7 = .fn 164 [] ∧ s.env 10 = .ptr ia 0 0 ∧ s.env 11 = .ptr ib 0 0 ∧ s.heap nx = some (4, [[.int .i64 u.a.x, .int .i64 u.a.y, .int .i64 u.b.x, .int .i64 u.b.y]]) ∧ s.heap (nx + 1) = some (4, [[.int .i64 v.a.x, .int .i64 v.a.y, .int .i64 v.b.x, .int .i64 v.b.y]]) ∧ s.heap (nx + 1 + 1) = some (12, [[.int .u64 0, .int .u64 0, .int .u64 0, .int .u64 0, .int .u64 0, .int .u64 0, .int .u64 0, .int .u64 0, .int .u64 0, .int .u64 0, .int .u64 0, .int .u64 0]]) ∧ s.heap (nx + 1 + 1 + 1) = some (12, [[.int .u64 0, .int .u64 0, .int .u64 0, .int .u64 0, .int .u64 0, .int .u64 0, .int .u64 0, .int .u64 0, .int .u64 0, .int .u64 0, .int .u64 0, .int .u64 0]]) ∧ s.heap ia = some (2, [[.int .i64 lo.x, .int .i64 lo.y]]) ∧ s.heap ib = some (2, [[.int .i64 hi.x, .int .i64 hi.y]]) ∧ (nx + 1 + 1 + 1) < ia ∧ ia < ib ∧ ib < s.nx ∧ s.nt = 215) → K16 s := by
       rintro ⟨e, H, mm, nt⟩ ⟨lo, hi, ia, ib, hlo, hhi, g2, g3, g5, g6, g7, g10, g11, hU, hV, hP, hQ, hL, hH, hia, hib, hm, rfl⟩
       simp only [] at g2 g3 g5 g6 g7 g10 g11 hU hV hP hQ hL hH hia hib hm
       rw [hhi] at hH
       clear hhi hi
       refine hK16 _ ?_
       refine .sq fun K17 hK17 => ?_
       have J17 : ∀ s : St, (∃ (lo hi : Sp) (ia ib : Nat), lo = lowS u v ∧ hi = highS u v ∧ s.env 2 = .ptr nx 0 0 ∧ s.env 3 = .ptr (nx + 1) 0 0 ∧ s.env 5 = .ptr (nx + 1 + 1) 0 0 ∧ s.env 6 = .ptr (nx + 1 + 1 + 1) 0 0 ∧ s.env 7 = .fn 164 [] ∧ s.env 10 = .ptr ia 0 0 ∧ s.env 11 = .ptr ib 0 0 ∧ s.heap nx = some (4, [[.int .i64 u.a.x, .int .i64 u.a.y, .int .i64 u.b.x, .int .i64 u.b.y]]) ∧ s.heap (nx + 1) = some (4, [[.int .i64 v.a.x, .int .i64 v.a.y, .int .i64 v.b.x, .int .i64 v.b.y]]) ∧ s.heap (nx + 1 + 1) = some (12, [[.int .u64 0, .int .u64 0, .int .u64 0, .int .u64 0, .int .u64 0, .int .u64 0, .int .u64 0, .int .u64 0, .int .u64 0, .int .u64 0, .int .u64 0, .int .u64 0]]) ∧ s.heap (nx + 1 + 1 + 1) = some (12, [[.int .u64 0, .int .u64 0, .int .u64 0, .int .u64 0, .int .u64 0, .int .u64 0, .int .u64 0, .int .u64 0, .int .u64 0, .int .u64 0, .int .u64 0, .int .u64 0]]) ∧ s.heap ia = some (2, [[.int .i64 lo.x, .int .i64 lo.y]]) ∧ s.heap ib = some (2, [[.int .i64 hi.x, .int .i64 hi.y]]) ∧ (nx + 1 + 1 + 1) < ia ∧ ia < ib ∧ ib < s.nx ∧ s.nt = 215) → K17 s := by
        clear g2 g3 g5 g6 g7 g10 g11 hU hV hP hQ hL hH hia hib hm hlo lo
        rintro ⟨e, H, mm, nt⟩ ⟨lo, hi, ia, ib, hlo, hhi, g2, g3, g5, g6, g7, g10, g11, hU, hV, hP, hQ, hL, hH, hia, hib, hm, rfl⟩
        simp only [] at g2 g3 g5 g6 g7 g10 g11 hU hV hP hQ hL hH hia hib hm
        have gl : lo.good = true := by rw [hlo]; unfold lowS; split; exact va; exact ua
        have gh : hi.good = true := by rw [hhi]; unfold highS; split; exact vb; exact ub
        have hli : linP u v = if lsS hi lo = true then (0, pt0, pt0) else if lo = hi then (1, ptS lo, pt0) else (2, ptS lo, ptS hi) := by rw [hlo, hhi]; rfl
        clear hlo hhi
        refine hK17 _ ?_
        refine .sq fun K18 hK18 => ?_
        refine .sq fun K19 hK19 => ?_
        refine .region ?_
        refine .kf 2 (cmpSpots_fc lo hi) hb117 ?_ (by simp (disch := first|omega|(simp only[ln];omega)) [List.take_succ_cons, List.take_zero, g2, g3, g5, g6, g7, g10, g11, hU, hV, hP, hQ, hL, hH]; rfl) (ha := by simp (disch := first|omega|(simp only[ln];omega)) [idf_Wd', g2, g3, g5, g6, g7, g10, g11, hU, hV, hP, hQ, hL, hH])
        refine .e ?_ (by simp (disch := first|omega|(simp only[ln];omega)) [g2, g3, g5, g6, g7, g10, g11, hU, hV, hP, hQ, hL, hH]; rfl)
        refine hK19 _ ?_
        refine .block ?_
        refine .q ?_
        refine .c (t := lsS hi lo) (fun h114 => ?_) (fun h114 => ?_) (by simp (disch := first|omega|(simp only[ln];omega)) [lsS_dec2])
        ·try simp only[dc]at h114
         refine .sq fun K21 hK21 => ?_
         refine .region ?_
         refine .k 1 ?_ (by simp (disch := first|omega|(simp only[ln];omega)) [List.take_succ_cons, List.take_zero, g2, g3, g5, g6, g7, g10, g11, hU, hV, hP, hQ, hL, hH]; rfl)
         refine AOPS.fcall (none_fc) rfl rfl (by simp; rfl) hbNone (by simp (disch := first|omega|(simp only[ln];omega)) [idf_Wd', g2, g3, g5, g6, g7, g10, g11, hU, hV, hP, hQ, hL, hH]) (by simp (disch := first|omega|(simp only[ln];omega)) [g2, g3, g5, g6, g7, g10, g11, hU, hV, hP, hQ, hL, hH]) (by simp) ?_
         simp only [puts_some, updo]
         refine .e ?_ (by simp (disch := first|omega|(simp only[ln];omega)) [g2, g3, g5, g6, g7, g10, g11, hU, hV, hP, hQ, hL, hH]; rfl)
         refine hK21 _ ?_
         refine .ret ?_
         exact hK _ _ _ _ trivial ((Fin.mk (by simp (disch := omega) [aRes, aResL, aRes1, g5, g6]; rfl)).cast (by rw [hm', hli, if_pos h114]; try rfl))
        ·try simp only[dc]at h114
         refine .q ?_
         refine .c (t := decide (lo = hi)) (fun h122 => ?_) (fun h122 => ?_) (by simp (disch := first|omega|(simp only[ln];omega)) [cmS_deq])
         ·try simp only[dc]at h122
          refine .sq fun K23 hK23 => ?_
          refine .region ?_
          refine .kf 1 (pointOfI_fc lo gl) hb87 ?_ (by simp (disch := first|omega|(simp only[ln];omega)) [List.take_succ_cons, List.take_zero, g2, g3, g5, g6, g7, g10, g11, hU, hV, hP, hQ, hL, hH]; rfl) (ha := by simp (disch := first|omega|(simp only[ln];omega)) [idf_Wd', g2, g3, g5, g6, g7, g10, g11, hU, hV, hP, hQ, hL, hH])
          refine .e ?_ (by simp (disch := first|omega|(simp only[ln];omega)) [g2, g3, g5, g6, g7, g10, g11, hU, hV, hP, hQ, hL, hH]; rfl)
          refine hK23 _ ?_
          refine .ret ?_
          exact hK _ _ _ _ trivial ((Fin.mk (by simp (disch := omega) [aRes, aResL, aRes1, g5, g6]; rfl)).cast (by rw [hm', hli, if_neg (by rw [h114]; simp), if_pos h122]; try rfl))
         ·try simp only[dc]at h122
          refine .skip ?_
          refine hK18 _ ?_
          refine .sq fun K24 hK24 => ?_
          refine .old fun hold => ?_
          refine .d 4 ?_
          refine .k 1 (fun fs25 hfs25 => ?_) (by simp (disch := first|omega|(simp only[ln];omega)) [runDf.eq_def, runF1, runF2, stepF.eq_def, updo.eq_def, hupo.eq_def, opSto1.eq_def, List.take_succ_cons, List.take_zero, g2, g3, g5, g6, g7, g10, g11, hU, hV, hP, hQ, hL, hH]; rfl)
          refine .f (pointOfI_fc lo gl) hb87 ?_ (ha := by simp (disch := first|omega|(simp only[ln];omega)) [idf_Wd', g2, g3, g5, g6, g7, g10, g11, hU, hV, hP, hQ, hL, hH])
          refine DP.runF1q (by simp (disch := first|omega|(simp only[ln];omega)) [runDf.eq_def, runF1, runF2, stepF.eq_def, updo.eq_def, hupo.eq_def, opSto1.eq_def, g2, g3, g5, g6, g7, g10, g11, hU, hV, hP, hQ, hL, hH]; rfl) fun fq26 hfq26 => ?_
          simp [qids, asksB, Op.operands, topId] at hfq26
          simp only [updo]
          refine .f (pointOfI_fc hi gh) hb87 ?_ (ha := by simp (disch := first|omega|(simp only[ln];omega)) [idf_Wd', g2, g3, g5, g6, g7, g10, g11, hU, hV, hP, hQ, hL, hH])
          refine DQ.asg1 _ rfl rfl ?_
          simp only [updo]
          refine DQ.sto1 (m := 4) [2, 3] _ (by simp (disch := first|omega|(simp only[ln];omega)) [runDf.eq_def, runF1, runF2, stepF.eq_def, updo.eq_def, hupo.eq_def, opSto1.eq_def, g2, g3, g5, g6, g7, g10, g11, hU, hV, hP, hQ, hL, hH]; rfl) rfl (by simp only[ln, hfs25];omega) (by kernel_rfl) (by intro k f hk hex; simp only [List.mem_cons, List.not_mem_nil, or_false] at hex; rcases hex with rfl | rfl <;> (simp [List.getElem?_append, hfs25] at hk; subst hk; refine ⟨?_, by first | omega | (simp; done) | (simp; omega)⟩; simp [qids, asksB, Op.operands, Call.operands, topId, numS, numI, Wd, hfq26, g2, g3, g5, g6, g7, g10, g11]; try omega)) ?_
          try simp only []
          refine DQ.sto1 (m := 4) [] _ (by simp (disch := first|omega|(simp only[ln];omega)) [runDf.eq_def, runF1, runF2, stepF.eq_def, updo.eq_def, hupo.eq_def, opSto1.eq_def, g2, g3, g5, g6, g7, g10, g11, hU, hV, hP, hQ, hL, hH]; rfl) rfl (by simp only[ln, hfs25];omega) (by kernel_rfl) (by intro k f hk hex; simp only [List.not_mem_nil] at hex) ?_
          try simp only []
          refine hK24 _ ?_
          refine .ret ?_
          exact hK _ _ _ _ trivial ((Fin.mk (by simp (disch := omega) [aRes, aResL, aRes1, g5, g6]; rfl)).cast (by rw [hm', hli, if_neg (by rw [h114]; simp), if_neg h122]; try rfl))
       refine .sq fun K27 hK27 => ?_
       refine .region ?_
       refine .kf 3 (cmpSpots_fc v.b u.b) hb117 ?_ (by simp (disch := first|omega|(simp only[ln];omega)) [List.take_succ_cons, List.take_zero, g2, g3, g5, g6, g7, g10, g11, hU, hV, hP, hQ, hL, hH]; rfl) (ha := by simp (disch := first|omega|(simp only[ln];omega)) [idf_Wd', g2, g3, g5, g6, g7, g10, g11, hU, hV, hP, hQ, hL, hH])
       refine .e ?_ (by simp (disch := first|omega|(simp only[ln];omega)) [g2, g3, g5, g6, g7, g10, g11, hU, hV, hP, hQ, hL, hH]; rfl)
       refine hK27 _ ?_
       refine .c (t := lsS v.b u.b) (fun h108 => ?_) (fun h108 => ?_) (by simp (disch := first|omega|(simp only[ln];omega)) [lsS_dec])
       ·try simp only[dc]at h108
        refine .r ?_ (by simp (disch := first|omega|(simp only[ln];omega)) [g2, g3, g5, g6, g7, g10, g11, hU, hV, hP, hQ, hL, hH]; rfl)
        refine J17 _ ?_
        exact ⟨lo, v.b, ia, ib, hlo, by unfold highS; rw [if_pos h108], by first | (simp; done) | (simp [g2, g3, g5, g6, g7, g10, g11]; done), by first | (simp; done) | (simp [g2, g3, g5, g6, g7, g10, g11]; done), by first | (simp; done) | (simp [g2, g3, g5, g6, g7, g10, g11]; done), by first | (simp; done) | (simp [g2, g3, g5, g6, g7, g10, g11]; done), by first | (simp; done) | (simp [g2, g3, g5, g6, g7, g10, g11]; done), by first | (simp; done) | (simp [g2, g3, g5, g6, g7, g10, g11]; done), by first | (simp; done) | (simp [g2, g3, g5, g6, g7, g10, g11]; done), by first | (simp (disch := omega); done) | (simp (disch := omega) [hU, hV, hP, hQ, hL, hH]; done), by first | (simp (disch := omega); done) | (simp (disch := omega) [hU, hV, hP, hQ, hL, hH]; done), by first | (simp (disch := omega); done) | (simp (disch := omega) [hU, hV, hP, hQ, hL, hH]; done), by first | (simp (disch := omega); done) | (simp (disch := omega) [hU, hV, hP, hQ, hL, hH]; done), by first | (simp (disch := omega); done) | (simp (disch := omega) [hU, hV, hP, hQ, hL, hH]; done), by first | (simp (disch := omega); done) | (simp (disch := omega) [hU, hV, hP, hQ, hL, hH]; done), by omega, by omega, by first | omega | (simp; done) | (simp; omega), rfl⟩
       ·try simp only[dc]at h108
        refine .skip ?_
        refine J17 _ ?_
        exact ⟨lo, u.b, ia, ib, hlo, by unfold highS; rw [h108]; rfl, by first | (simp; done) | (simp [g2, g3, g5, g6, g7, g10, g11]; done), by first | (simp; done) | (simp [g2, g3, g5, g6, g7, g10, g11]; done), by first | (simp; done) | (simp [g2, g3, g5, g6, g7, g10, g11]; done), by first | (simp; done) | (simp [g2, g3, g5, g6, g7, g10, g11]; done), by first | (simp; done) | (simp [g2, g3, g5, g6, g7, g10, g11]; done), by first | (simp; done) | (simp [g2, g3, g5, g6, g7, g10, g11]; done), by first | (simp; done) | (simp [g2, g3, g5, g6, g7, g10, g11]; done), by first | (simp (disch := omega); done) | (simp (disch := omega) [hU, hV, hP, hQ, hL, hH]; done), by first | (simp (disch := omega); done) | (simp (disch := omega) [hU, hV, hP, hQ, hL, hH]; done), by first | (simp (disch := omega); done) | (simp (disch := omega) [hU, hV, hP, hQ, hL, hH]; done), by first | (simp (disch := omega); done) | (simp (disch := omega) [hU, hV, hP, hQ, hL, hH]; done), by first | (simp (disch := omega); done) | (simp (disch := omega) [hU, hV, hP, hQ, hL, hH]; done), by first | (simp (disch := omega); done) | (simp (disch := omega) [hU, hV, hP, hQ, hL, hH]; done), by omega, by omega, by first | omega | (simp; done) | (simp; omega), rfl⟩
      refine .sq fun K28 hK28 => ?_
      refine .region ?_
      refine .kf 3 (cmpSpots_fc v.a u.a) hb117 ?_
      refine .e ?_
      refine hK28 _ ?_
      refine .c (t := lsS u.a v.a) (fun h101 => ?_) (fun h101 => ?_) (by simp (disch := first|omega|(simp only[ln];omega)) [lsS_dec2])
      ·try simp only[dc]at h101
       refine .r ?_
       refine J16 _ ?_
       exact ⟨v.a, u.b, (nx + 1 + 1 + 1 + 1) + 16 + 4, (nx + 1 + 1 + 1 + 1) + 16 + 5, by unfold lowS; rw [if_pos h101], rfl, by simp, by simp, by simp, by simp, by simp, by simp, by simp, by simp (disch := omega), by simp (disch := omega), by simp (disch := omega), by simp (disch := omega), by simp (disch := omega), by simp (disch := omega), by omega, by omega, by first | omega | (simp; done) | (simp; omega), rfl⟩
      ·try simp only[dc]at h101
       refine .skip ?_
       refine J16 _ ?_
       exact ⟨u.a, u.b, (nx + 1 + 1 + 1 + 1) + 16 + 4, (nx + 1 + 1 + 1 + 1) + 16 + 5, by unfold lowS; rw [h101]; rfl, rfl, by simp, by simp, by simp, by simp, by simp, by simp, by simp, by simp (disch := omega), by simp (disch := omega), by simp (disch := omega), by simp (disch := omega), by simp (disch := omega), by simp (disch := omega), by omega, by omega, by first | omega | (simp; done) | (simp; omega), rfl⟩
     ·simp at h92
    ·have c2 : (B == 0) = false := by simp [hB0]
     have hm' := hm
     rw [if_neg (fun h => hB0 h.2)] at hm'
     refine .r ?_ (by simp (disch := first|omega|(simp only[ln];omega)) [c1, c2]; rfl)
     refine hK10 _ ?_
     refine .c (fun h92 => ?_) (fun h92 => ?_)
     ·simp at h92
     ·try simp only[dc]at h92
      refine .skip ?_
      refine hK9 _ ?_
      refine .sq fun K29 hK29 => ?_
      refine .d 14 ?_
      refine .k 6 (fun fs30 hfs30 => ?_)
      refine .f cC hb165 ?_
      refine .k 6 (fun fs31 hfs31 => ?_)
      refine .f cD hb165 ?_
      refine .r 14 (by simp only[ln, hfs30, hfs31];omega) ?_
      refine hK29 _ ?_
      refine .sq fun K32 hK32 => ?_
      refine .sq fun K33 hK33 => ?_
      cases q3 : decide (0 < sg3 A * sg3 B)
      ·refine .region ?_
       refine .kf 1 (signI_fc A) hb56 ?_ (by simp (disch := first|omega|(simp only[ln];omega)) [List.take_succ_cons, List.take_zero, q3]; rfl) (ha := by simp (disch := first|omega|(simp only[ln];omega)) [idf_Wd', q3])
       refine .kf 1 (signI_fc B) hb56 ?_ (by simp (disch := first|omega|(simp only[ln];omega)) [List.take_succ_cons, List.take_zero, q3]; rfl) (ha := by simp (disch := first|omega|(simp only[ln];omega)) [idf_Wd', q3])
       refine .kf 4 (signI_fc C) hb56 ?_ (by simp (disch := first|omega|(simp only[ln];omega)) [List.take_succ_cons, List.take_zero, q3]; rfl) (ha := by simp (disch := first|omega|(simp only[ln];omega)) [idf_Wd', q3])
       refine .kf 1 (signI_fc D) hb56 ?_ (by simp (disch := first|omega|(simp only[ln];omega)) [List.take_succ_cons, List.take_zero, q3]; rfl) (ha := by simp (disch := first|omega|(simp only[ln];omega)) [idf_Wd', q3])
       refine .e ?_ (by simp (disch := first|omega|(simp only[ln];omega)) [q3]; rfl)
       refine hK33 _ ?_
       refine .c (t := decide (0 < sg3 C * sg3 D)) (fun h159 => ?_) (fun h159 => ?_)
       ·try simp only[dc]at h159
        have hw : noWay u v = true := by rw [hnw, q3]; simp [h159]
        refine .sq fun K34 hK34 => ?_
        refine .region ?_
        refine .k 1 ?_
        refine AOPS.fcall (none_fc) rfl rfl (by simp; rfl) hbNone (by simp (disch := first|omega|(simp only[ln];omega)) [idf_Wd']) (by simp (disch := first|omega|(simp only[ln];omega))) (by simp) ?_
        simp only [puts_some, updo]
        refine .e ?_
        refine hK34 _ ?_
        refine .ret ?_
        exact hK _ _ _ _ trivial ((Fin.m).cast (by rw [hm', if_pos hw]; try rfl))
       ·try simp only[dc]at h159
        have hw : ¬ noWay u v = true := by rw [hnw, q3]; simp; omega
        have b1 : Bg 1 v.a.x := Bg.i64 (by omega) (by omega)
        have b2 : Bg 1 v.a.y := Bg.i64 (by omega) (by omega)
        have b3 : Bg 1 A := Bg.i64 (by omega) (by omega)
        have b4 : Bg 1 (A - B) := Bg.i64 (by omega) (by omega)
        have b5 : Bg 1 (v.b.x - v.a.x) := Bg.i64 (by omega) (by omega)
        have b6 : Bg 1 (v.b.y - v.a.y) := Bg.i64 (by omega) (by omega)
        refine .skip ?_
        refine hK32 _ ?_
        refine .sq fun K35 hK35 => ?_
        refine .region ?_
        refine .kf 3 (whole_fc (A - B) (by omega) (by omega)) hb47 ?_
        refine .e ?_
        refine hK35 _ ?_
        refine .sq fun K36 hK36 => ?_
        refine .d 19 ?_
        refine .k 3 (fun fs37 hfs37 => ?_)
        refine .f (whole_fc v.a.x (by omega) (by omega)) hb47 ?_
        refine .k 1 (fun fs38 hfs38 => ?_)
        refine .f (by_fc b1 b4 (by omega) (by omega)) hb48 ?_
        refine .k 1 (fun fs39 hfs39 => ?_)
        refine .f (whole_fc A (by omega) (by omega)) hb47 ?_
        refine .k 7 (fun fs40 hfs40 => ?_)
        refine .f (whole_fc (v.b.x - v.a.x) (by omega) (by omega)) hb47 ?_
        refine .f (by_fc b3 b5 (by omega) (by omega)) hb48 ?_
        refine .f (plus_fc (b1.mul b4) (b3.mul b5) (by omega) (by omega)) hb51 ?_
        refine .k 1 (fun fs41 hfs41 => ?_)
        refine .r 19 (by simp only[ln, hfs37, hfs38, hfs39, hfs40, hfs41];omega) ?_
        refine hK36 _ ?_
        refine .sq fun K42 hK42 => ?_
        refine .d 19 ?_
        refine .k 3 (fun fs43 hfs43 => ?_)
        refine .f (whole_fc v.a.y (by omega) (by omega)) hb47 ?_
        refine .k 1 (fun fs44 hfs44 => ?_)
        refine .f (by_fc b2 b4 (by omega) (by omega)) hb48 ?_
        refine .k 1 (fun fs45 hfs45 => ?_)
        refine .f (whole_fc A (by omega) (by omega)) hb47 ?_
        refine .k 7 (fun fs46 hfs46 => ?_)
        refine .f (whole_fc (v.b.y - v.a.y) (by omega) (by omega)) hb47 ?_
        refine .f (by_fc b3 b6 (by omega) (by omega)) hb48 ?_
        refine .f (plus_fc (b2.mul b4) (b3.mul b6) (by omega) (by omega)) hb51 ?_
        refine .k 1 (fun fs47 hfs47 => ?_)
        refine .r 19 (by simp only[ln, hfs43, hfs44, hfs45, hfs46, hfs47];omega) ?_
        refine hK42 _ ?_
        refine .sq fun K48 hK48 => ?_
        refine .region ?_
        refine .kf 4 (spotPoint_fc (j := 3) (v.a.x * (A - B) + A * (v.b.x - v.a.x)) (v.a.y * (A - B) + A * (v.b.y - v.a.y)) (A - B) (((b1.mul b4).add (b3.mul b5)).le (by omega)) (((b2.mul b4).add (b3.mul b6)).le (by omega)) (b4.le (by omega)) (by omega)) hb166 ?_
        refine .e ?_
        refine hK48 _ ?_
        refine .sq fun K49 hK49 => ?_
        refine .old fun hold => ?_
        refine .d 2 ?_
        refine .k 1 (fun fs50 hfs50 => ?_)
        refine DP.runF1q (by simp (disch := first|omega|(simp only[ln];omega)) [runDf.eq_def, runF1, runF2, stepF.eq_def, updo.eq_def, hupo.eq_def, opSto1.eq_def]; rfl) fun fq51 hfq51 => ?_
        simp [qids, asksB, Op.operands, topId] at hfq51
        simp only [updo]
        refine DQ.asg1 _ rfl rfl ?_
        simp only [updo]
        refine DQ.sto1 (m := 2) [1] _ (by simp (disch := first|omega|(simp only[ln];omega)) [runDf.eq_def, runF1, runF2, stepF.eq_def, updo.eq_def, hupo.eq_def, opSto1.eq_def]; rfl) rfl (by simp only[ln, hfs50];omega) (by kernel_rfl) (by intro k f hk hex; simp only [List.mem_cons, List.not_mem_nil, or_false] at hex; rcases hex with rfl <;> (simp [List.getElem?_append, hfs50] at hk; subst hk; refine ⟨?_, by first | omega | (simp; done) | (simp; omega)⟩; simp [qids, asksB, Op.operands, Call.operands, topId, numS, numI, Wd, hfq51]; try omega)) ?_
        try simp only []
        refine DQ.sto1 (m := 2) [] _ (by simp (disch := first|omega|(simp only[ln];omega)) [runDf.eq_def, runF1, runF2, stepF.eq_def, updo.eq_def, hupo.eq_def, opSto1.eq_def]; rfl) rfl (by simp only[ln, hfs50];omega) (by kernel_rfl) (by intro k f hk hex; simp only [List.not_mem_nil] at hex) ?_
        try simp only []
        refine hK49 _ ?_
        refine .ret ?_
        exact hK _ _ _ _ trivial ((Fin.m).cast (by rw [hm', if_neg hw, eX, eY, eW]; try rfl))
      ·refine .region ?_
       refine .kf 1 (signI_fc A) hb56 ?_ (by simp (disch := first|omega|(simp only[ln];omega)) [List.take_succ_cons, List.take_zero, q3]; rfl) (ha := by simp (disch := first|omega|(simp only[ln];omega)) [idf_Wd', q3])
       refine .kf 1 (signI_fc B) hb56 ?_ (by simp (disch := first|omega|(simp only[ln];omega)) [List.take_succ_cons, List.take_zero, q3]; rfl) (ha := by simp (disch := first|omega|(simp only[ln];omega)) [idf_Wd', q3])
       refine .e ?_ (by simp (disch := first|omega|(simp only[ln];omega)) [q3]; rfl)
       refine hK33 _ ?_
       refine .c (fun h159 => ?_) (fun h159 => ?_)
       ·try simp only[dc]at h159
        have hw : noWay u v = true := by rw [hnw, q3]; rfl
        refine .sq fun K52 hK52 => ?_
        refine .region ?_
        refine .k 1 ?_
        refine AOPS.fcall (none_fc) rfl rfl (by simp; rfl) hbNone (by simp (disch := first|omega|(simp only[ln];omega)) [idf_Wd']) (by simp (disch := first|omega|(simp only[ln];omega))) (by simp) ?_
        simp only [puts_some, updo]
        refine .e ?_
        refine hK52 _ ?_
        refine .ret ?_
        exact hK _ _ _ _ trivial ((Fin.m).cast (by rw [hm', if_pos hw]; try rfl))
       ·simp at h159
   ·have c1 : (A == 0) = false := by simp [hA0]
    have hm' := hm
    rw [if_neg (fun h => hA0 h.1)] at hm'
    refine .r ?_ (by simp (disch := first|omega|(simp only[ln];omega)) [c1]; rfl)
    refine hK10 _ ?_
    refine .c (fun h92 => ?_) (fun h92 => ?_)
    ·simp at h92
    ·try simp only[dc]at h92
     refine .skip ?_
     refine hK9 _ ?_
     refine .sq fun K53 hK53 => ?_
     refine .d 14 ?_
     refine .k 6 (fun fs54 hfs54 => ?_)
     refine .f cC hb165 ?_
     refine .k 6 (fun fs55 hfs55 => ?_)
     refine .f cD hb165 ?_
     refine .r 14 (by simp only[ln, hfs54, hfs55];omega) ?_
     refine hK53 _ ?_
     refine .sq fun K56 hK56 => ?_
     refine .sq fun K57 hK57 => ?_
     cases q3 : decide (0 < sg3 A * sg3 B)
     ·refine .region ?_
      refine .kf 1 (signI_fc A) hb56 ?_ (by simp (disch := first|omega|(simp only[ln];omega)) [List.take_succ_cons, List.take_zero, q3]; rfl) (ha := by simp (disch := first|omega|(simp only[ln];omega)) [idf_Wd', q3])
      refine .kf 1 (signI_fc B) hb56 ?_ (by simp (disch := first|omega|(simp only[ln];omega)) [List.take_succ_cons, List.take_zero, q3]; rfl) (ha := by simp (disch := first|omega|(simp only[ln];omega)) [idf_Wd', q3])
      refine .kf 4 (signI_fc C) hb56 ?_ (by simp (disch := first|omega|(simp only[ln];omega)) [List.take_succ_cons, List.take_zero, q3]; rfl) (ha := by simp (disch := first|omega|(simp only[ln];omega)) [idf_Wd', q3])
      refine .kf 1 (signI_fc D) hb56 ?_ (by simp (disch := first|omega|(simp only[ln];omega)) [List.take_succ_cons, List.take_zero, q3]; rfl) (ha := by simp (disch := first|omega|(simp only[ln];omega)) [idf_Wd', q3])
      refine .e ?_ (by simp (disch := first|omega|(simp only[ln];omega)) [q3]; rfl)
      refine hK57 _ ?_
      refine .c (t := decide (0 < sg3 C * sg3 D)) (fun h159 => ?_) (fun h159 => ?_)
      ·try simp only[dc]at h159
       have hw : noWay u v = true := by rw [hnw, q3]; simp [h159]
       refine .sq fun K58 hK58 => ?_
       refine .region ?_
       refine .k 1 ?_
       refine AOPS.fcall (none_fc) rfl rfl (by simp; rfl) hbNone (by simp (disch := first|omega|(simp only[ln];omega)) [idf_Wd']) (by simp (disch := first|omega|(simp only[ln];omega))) (by simp) ?_
       simp only [puts_some, updo]
       refine .e ?_
       refine hK58 _ ?_
       refine .ret ?_
       exact hK _ _ _ _ trivial ((Fin.m).cast (by rw [hm', if_pos hw]; try rfl))
      ·try simp only[dc]at h159
       have hw : ¬ noWay u v = true := by rw [hnw, q3]; simp; omega
       have b1 : Bg 1 v.a.x := Bg.i64 (by omega) (by omega)
       have b2 : Bg 1 v.a.y := Bg.i64 (by omega) (by omega)
       have b3 : Bg 1 A := Bg.i64 (by omega) (by omega)
       have b4 : Bg 1 (A - B) := Bg.i64 (by omega) (by omega)
       have b5 : Bg 1 (v.b.x - v.a.x) := Bg.i64 (by omega) (by omega)
       have b6 : Bg 1 (v.b.y - v.a.y) := Bg.i64 (by omega) (by omega)
       refine .skip ?_
       refine hK56 _ ?_
       refine .sq fun K59 hK59 => ?_
       refine .region ?_
       refine .kf 3 (whole_fc (A - B) (by omega) (by omega)) hb47 ?_
       refine .e ?_
       refine hK59 _ ?_
       refine .sq fun K60 hK60 => ?_
       refine .d 19 ?_
       refine .k 3 (fun fs61 hfs61 => ?_)
       refine .f (whole_fc v.a.x (by omega) (by omega)) hb47 ?_
       refine .k 1 (fun fs62 hfs62 => ?_)
       refine .f (by_fc b1 b4 (by omega) (by omega)) hb48 ?_
       refine .k 1 (fun fs63 hfs63 => ?_)
       refine .f (whole_fc A (by omega) (by omega)) hb47 ?_
       refine .k 7 (fun fs64 hfs64 => ?_)
       refine .f (whole_fc (v.b.x - v.a.x) (by omega) (by omega)) hb47 ?_
       refine .f (by_fc b3 b5 (by omega) (by omega)) hb48 ?_
       refine .f (plus_fc (b1.mul b4) (b3.mul b5) (by omega) (by omega)) hb51 ?_
       refine .k 1 (fun fs65 hfs65 => ?_)
       refine .r 19 (by simp only[ln, hfs61, hfs62, hfs63, hfs64, hfs65];omega) ?_
       refine hK60 _ ?_
       refine .sq fun K66 hK66 => ?_
       refine .d 19 ?_
       refine .k 3 (fun fs67 hfs67 => ?_)
       refine .f (whole_fc v.a.y (by omega) (by omega)) hb47 ?_
       refine .k 1 (fun fs68 hfs68 => ?_)
       refine .f (by_fc b2 b4 (by omega) (by omega)) hb48 ?_
       refine .k 1 (fun fs69 hfs69 => ?_)
       refine .f (whole_fc A (by omega) (by omega)) hb47 ?_
       refine .k 7 (fun fs70 hfs70 => ?_)
       refine .f (whole_fc (v.b.y - v.a.y) (by omega) (by omega)) hb47 ?_
       refine .f (by_fc b3 b6 (by omega) (by omega)) hb48 ?_
       refine .f (plus_fc (b2.mul b4) (b3.mul b6) (by omega) (by omega)) hb51 ?_
       refine .k 1 (fun fs71 hfs71 => ?_)
       refine .r 19 (by simp only[ln, hfs67, hfs68, hfs69, hfs70, hfs71];omega) ?_
       refine hK66 _ ?_
       refine .sq fun K72 hK72 => ?_
       refine .region ?_
       refine .kf 4 (spotPoint_fc (j := 3) (v.a.x * (A - B) + A * (v.b.x - v.a.x)) (v.a.y * (A - B) + A * (v.b.y - v.a.y)) (A - B) (((b1.mul b4).add (b3.mul b5)).le (by omega)) (((b2.mul b4).add (b3.mul b6)).le (by omega)) (b4.le (by omega)) (by omega)) hb166 ?_
       refine .e ?_
       refine hK72 _ ?_
       refine .sq fun K73 hK73 => ?_
       refine .old fun hold => ?_
       refine .d 2 ?_
       refine .k 1 (fun fs74 hfs74 => ?_)
       refine DP.runF1q (by simp (disch := first|omega|(simp only[ln];omega)) [runDf.eq_def, runF1, runF2, stepF.eq_def, updo.eq_def, hupo.eq_def, opSto1.eq_def]; rfl) fun fq75 hfq75 => ?_
       simp [qids, asksB, Op.operands, topId] at hfq75
       simp only [updo]
       refine DQ.asg1 _ rfl rfl ?_
       simp only [updo]
       refine DQ.sto1 (m := 2) [1] _ (by simp (disch := first|omega|(simp only[ln];omega)) [runDf.eq_def, runF1, runF2, stepF.eq_def, updo.eq_def, hupo.eq_def, opSto1.eq_def]; rfl) rfl (by simp only[ln, hfs74];omega) (by kernel_rfl) (by intro k f hk hex; simp only [List.mem_cons, List.not_mem_nil, or_false] at hex; rcases hex with rfl <;> (simp [List.getElem?_append, hfs74] at hk; subst hk; refine ⟨?_, by first | omega | (simp; done) | (simp; omega)⟩; simp [qids, asksB, Op.operands, Call.operands, topId, numS, numI, Wd, hfq75]; try omega)) ?_
       try simp only []
       refine DQ.sto1 (m := 2) [] _ (by simp (disch := first|omega|(simp only[ln];omega)) [runDf.eq_def, runF1, runF2, stepF.eq_def, updo.eq_def, hupo.eq_def, opSto1.eq_def]; rfl) rfl (by simp only[ln, hfs74];omega) (by kernel_rfl) (by intro k f hk hex; simp only [List.not_mem_nil] at hex) ?_
       try simp only []
       refine hK73 _ ?_
       refine .ret ?_
       exact hK _ _ _ _ trivial ((Fin.m).cast (by rw [hm', if_neg hw, eX, eY, eW]; try rfl))
     ·refine .region ?_
      refine .kf 1 (signI_fc A) hb56 ?_ (by simp (disch := first|omega|(simp only[ln];omega)) [List.take_succ_cons, List.take_zero, q3]; rfl) (ha := by simp (disch := first|omega|(simp only[ln];omega)) [idf_Wd', q3])
      refine .kf 1 (signI_fc B) hb56 ?_ (by simp (disch := first|omega|(simp only[ln];omega)) [List.take_succ_cons, List.take_zero, q3]; rfl) (ha := by simp (disch := first|omega|(simp only[ln];omega)) [idf_Wd', q3])
      refine .e ?_ (by simp (disch := first|omega|(simp only[ln];omega)) [q3]; rfl)
      refine hK57 _ ?_
      refine .c (fun h159 => ?_) (fun h159 => ?_)
      ·try simp only[dc]at h159
       have hw : noWay u v = true := by rw [hnw, q3]; rfl
       refine .sq fun K76 hK76 => ?_
       refine .region ?_
       refine .k 1 ?_
       refine AOPS.fcall (none_fc) rfl rfl (by simp; rfl) hbNone (by simp (disch := first|omega|(simp only[ln];omega)) [idf_Wd']) (by simp (disch := first|omega|(simp only[ln];omega))) (by simp) ?_
       simp only [puts_some, updo]
       refine .e ?_
       refine hK76 _ ?_
       refine .ret ?_
       exact hK _ _ _ _ trivial ((Fin.m).cast (by rw [hm', if_pos hw]; try rfl))
      ·simp at h159
 ·refine .r ?_ (by simp (disch := first|omega|(simp only[ln];omega)) [mx_fold, mn_fold, q1]; rfl)
  refine hK4 _ ?_
  refine .c (fun h67 => ?_) (fun h67 => ?_)
  ·try simp only[dc]at h67
   have hm := hmt (by rw [hap, q1]; rfl)
   refine .sq fun K77 hK77 => ?_
   refine .region ?_
   refine .k 1 ?_
   refine AOPS.fcall (none_fc) rfl rfl (by simp; rfl) hbNone (by simp (disch := first|omega|(simp only[ln];omega)) [idf_Wd']) (by simp (disch := first|omega|(simp only[ln];omega))) (by simp) ?_
   simp only [puts_some, updo]
   refine .e ?_
   refine hK77 _ ?_
   refine .ret ?_
   exact hK _ _ _ _ trivial ((Fin.m).cast (by rw [hm]; try rfl))
  ·simp at h67
end

end Go.Proofs.YtdcajfgeleopiaaGreat

/- Walks: where segments meet, by the reference; FnExactMeet. -/
namespace Go.Proofs.YtdcajfgeleopiaaGreat
open Go Go.RowKit
set_option linter.unusedSimpArgs false
set_option linter.unusedVariables false
set_option maxRecDepth 100000
attribute [local simp] szT2 byT2 agT2 unT2 zoT2 szT4 byT4 agT4 unT4 zoT4 szT53 byT53 agT53 flT53 fdT53_0 fdT53_1 zoT53 szT55 byT55 agT55 flT55 fdT55_0 fdT55_1 zoT55 szT71 byT71 agT71 elT71 unT71 zoT71 szT73 byT73 agT73 flT73 fdT73_0 fdT73_1 zoT73 szT75 byT75 agT75 flT75 fdT75_0 fdT75_1 fdT75_2 zoT75

def z3 : AV := .agg [.bool false, .nsl, .bool false, .nsl, .bool false, .nsl]
def nX (u v : Sg) : Int := nrm (denS u v) (wayX2 u v) / gcd3 (wayX2 u v) (wayY2 u v) (denS u v)
def nY (u v : Sg) : Int := nrm (denS u v) (wayY2 u v) / gcd3 (wayX2 u v) (wayY2 u v) (denS u v)
def nW (u v : Sg) : Int := nrm (denS u v) (denS u v) / gcd3 (wayX2 u v) (wayY2 u v) (denS u v)
def l4V (u v : Sg) : AV := if crs u.a u.b v.a = 0 ∧ crs u.a u.b v.b = 0 then (if lsS (highS u v) (lowS u v) = true then .tup [.int .i64 0, z3, z3] else if lowS u v = highS u v then .tup [.int .i64 1, l3A (lowS u v).x (lowS u v).y 1, z3] else .tup [.int .i64 2, l3A (lowS u v).x (lowS u v).y 1, l3A (highS u v).x (highS u v).y 1])
  else if noWay u v = true then .tup [.int .i64 0, z3, z3] else .tup [.int .i64 1, l3A (nX u v) (nY u v) (nW u v), z3]
theorem idf_l4V (u v : Sg) : idf (l4V u v) := by
  unfold l4V; repeat' split
  all_goals simp [idf, idfL, z3, l3A, l3C, idf_Wd']
theorem sg0 {z : Int} (h : z = 0) : (sg3 z == 0) = true := by simp [sg3_zero, h]
theorem sg1 {z : Int} (h : ¬ z = 0) : (sg3 z == 0) = false := by simp [sg3_zero, h]
theorem den_ne {u v : Sg} (gu : u.good = true) (gv : v.good = true) (h0 : ¬ (crs u.a u.b v.a = 0 ∧ crs u.a u.b v.b = 0)) (h : ¬ noWay u v = true) : denS u v ≠ 0 := by
  have := (way_apart (good_ls gu) (good_ls gv) h0 (by simpa using h)).1
  rw [den_w]; omega
theorem low_good {u v : Sg} (gu : u.good = true) (gv : v.good = true) : (lowS u v).good = true := by unfold lowS; split; exact good_a gv; exact good_a gu
theorem high_good {u v : Sg} (gu : u.good = true) (gv : v.good = true) : (highS u v).good = true := by unfold highS; split; exact good_b gv; exact good_b gu

theorem l1In_fc (n a b : Int) : FC Tryz.prog 64 [.int .i64 n, .int .i64 a, .int .i64 b] (.bool (decide (a ≤ n) && decide (n ≤ b))) := by
 refine .b Tryz.func64 15 (fun nx K hK => ?_)
 refine .q ?_
 refine .sq fun K2 hK2 => ?_
 cases h : decide (a ≤ n)
 ·refine .r ?_ (by simp (disch := first|omega|(simp only[ln];omega)) [h]; rfl)
  refine hK2 _ ?_
  refine .ret ?_
  exact hK _ _ _ _ trivial ((Fin.m).cast (by rw [h]; rfl))
 ·refine .r ?_ (by simp (disch := first|omega|(simp only[ln];omega)) [h]; rfl)
  refine hK2 _ ?_
  refine .ret ?_
  exact hK _ _ _ _ trivial ((Fin.m).cast (by rw [h]; rfl))
theorem l1InM_fc (n : Int) : FC Tryz.prog 64 [.int .i64 n, .int .i64 (-1000000), .int .i64 1000000] (.bool (inM n)) := l1In_fc n (-1000000) 1000000
section
attribute [local simp] Sp.av Sp.cells Sg.av Sg.cells
theorem spotOkS_fc (p : Sp) : FC Tryz.prog 122 [p.av] (.bool p.good) := by
 refine .b Tryz.func122 11 (fun nx K hK => ?_) (hi := by simp [idfL, idf, Sp.av, Sp.cells, Sg.av, Sg.cells])
 refine .q ?_
 refine .sq fun K2 hK2 => ?_
 cases hx : inM p.x
 ·refine .region ?_
  refine .kf 2 (l1InM_fc p.x) hb64 ?_ (by simp (disch := first|omega|(simp only[ln];omega)) [List.take_succ_cons, List.take_zero, hx]; rfl) (ha := by simp (disch := first|omega|(simp only[ln];omega)) [idf_Wd', hx])
  refine .e ?_ (by simp (disch := first|omega|(simp only[ln];omega)) [hx]; rfl)
  refine hK2 _ ?_
  refine .ret ?_
  exact hK _ _ _ _ trivial ((Fin.m).cast (by unfold Sp.good; rw [hx]; rfl))
 ·refine .region ?_
  refine .kf 2 (l1InM_fc p.x) hb64 ?_ (by simp (disch := first|omega|(simp only[ln];omega)) [List.take_succ_cons, List.take_zero, hx]; rfl) (ha := by simp (disch := first|omega|(simp only[ln];omega)) [idf_Wd', hx])
  refine .kf 3 (l1InM_fc p.y) hb64 ?_ (by simp (disch := first|omega|(simp only[ln];omega)) [List.take_succ_cons, List.take_zero, hx]; rfl) (ha := by simp (disch := first|omega|(simp only[ln];omega)) [idf_Wd', hx])
  refine .e ?_ (by simp (disch := first|omega|(simp only[ln];omega)) [hx]; rfl)
  refine hK2 _ ?_
  refine .ret ?_
  exact hK _ _ _ _ trivial ((Fin.m).cast (by unfold Sp.good; rw [hx]; rfl))
theorem l4Less_fc (p q : Sp) : FC Tryz.prog 128 [p.av, q.av] (.bool (lsS p q)) := by
 refine .b Tryz.func128 24 (fun nx K hK => ?_) (hi := by simp [idfL, idf, Sp.av, Sp.cells, Sg.av, Sg.cells])
 refine .q ?_
 refine .sq fun K2 hK2 => ?_
 by_cases q1 : p.x < q.x
 ·have hl : lsS p q = true := by simp [lsS, q1]
  have c1 : decide (p.x < q.x) = true := by simp [q1]
  refine .r ?_ (by simp (disch := first|omega|(simp only[ln];omega)) [c1]; rfl)
  refine hK2 _ ?_
  refine .ret ?_
  exact hK _ _ _ _ trivial ((Fin.m).cast (by rw [hl]; try rfl))
 ·have c1 : decide (p.x < q.x) = false := by simp; omega
  by_cases q2 : p.x = q.x
  ·have c2 : (p.x == q.x) = true := by simp [q2]
   have hl : lsS p q = decide (p.y < q.y) := by simp [lsS, q2]
   refine .r ?_ (by simp (disch := first|omega|(simp only[ln];omega)) [c1, c2]; rfl)
   refine hK2 _ ?_
   refine .ret ?_
   exact hK _ _ _ _ trivial ((Fin.m).cast (by rw [hl]))
  ·have c2 : (p.x == q.x) = false := by simp [q2]
   have hl : lsS p q = false := by simp [lsS, q2]; omega
   refine .r ?_ (by simp (disch := first|omega|(simp only[ln];omega)) [c1, c2]; rfl)
   refine hK2 _ ?_
   refine .ret ?_
   exact hK _ _ _ _ trivial ((Fin.m).cast (by rw [hl]; try rfl))
theorem segOkS_fc (s : Sg) : FC Tryz.prog 143 [s.av] (.bool s.good) := by
 refine .b Tryz.func143 18 (fun nx K hK => ?_) (hi := by simp [idfL, idf, Sp.av, Sp.cells, Sg.av, Sg.cells])
 refine .q ?_
 refine .sq fun K2 hK2 => ?_
 cases ha : s.a.good
 ·refine .region ?_
  refine .kf 2 (spotOkS_fc s.a) hb122 ?_ (by simp (disch := first|omega|(simp only[ln];omega)) [List.take_succ_cons, List.take_zero, ha]; rfl) (ha := by simp (disch := first|omega|(simp only[ln];omega)) [idf_Wd', ha])
  refine .e ?_ (by simp (disch := first|omega|(simp only[ln];omega)) [ha]; rfl)
  refine hK2 _ ?_
  refine .ret ?_
  exact hK _ _ _ _ trivial ((Fin.m).cast (by unfold Sg.good; rw [ha]; rfl))
 ·cases hb : s.b.good
  ·refine .region ?_
   refine .kf 2 (spotOkS_fc s.a) hb122 ?_ (by simp (disch := first|omega|(simp only[ln];omega)) [List.take_succ_cons, List.take_zero, ha, hb]; rfl) (ha := by simp (disch := first|omega|(simp only[ln];omega)) [idf_Wd', ha, hb])
   refine .kf 3 (spotOkS_fc s.b) hb122 ?_ (by simp (disch := first|omega|(simp only[ln];omega)) [List.take_succ_cons, List.take_zero, ha, hb]; rfl) (ha := by simp (disch := first|omega|(simp only[ln];omega)) [idf_Wd', ha, hb])
   refine .e ?_ (by simp (disch := first|omega|(simp only[ln];omega)) [ha, hb]; rfl)
   refine hK2 _ ?_
   refine .ret ?_
   exact hK _ _ _ _ trivial ((Fin.m).cast (by unfold Sg.good; rw [ha, hb]; rfl))
  ·refine .region ?_
   refine .kf 2 (spotOkS_fc s.a) hb122 ?_ (by simp (disch := first|omega|(simp only[ln];omega)) [List.take_succ_cons, List.take_zero, ha, hb, lsS_dec]; rfl) (ha := by simp (disch := first|omega|(simp only[ln];omega)) [idf_Wd', ha, hb, lsS_dec])
   refine .kf 3 (spotOkS_fc s.b) hb122 ?_ (by simp (disch := first|omega|(simp only[ln];omega)) [List.take_succ_cons, List.take_zero, ha, hb, lsS_dec]; rfl) (ha := by simp (disch := first|omega|(simp only[ln];omega)) [idf_Wd', ha, hb, lsS_dec])
   refine .kf 6 (l4Less_fc s.a s.b) hb128 ?_ (by simp (disch := first|omega|(simp only[ln];omega)) [List.take_succ_cons, List.take_zero, ha, hb, lsS_dec]; rfl) (ha := by simp (disch := first|omega|(simp only[ln];omega)) [idf_Wd', ha, hb, lsS_dec])
   refine .e ?_ (by simp (disch := first|omega|(simp only[ln];omega)) [ha, hb, lsS_dec]; rfl)
   refine hK2 _ ?_
   refine .ret ?_
   exact hK _ _ _ _ trivial ((Fin.m).cast (by unfold Sg.good; rw [ha, hb]; rfl))
set_option maxHeartbeats 1000000 in
theorem l4Turn_fc (a b c : Sp) (ha : a.good = true) (hb : b.good = true) (hc : c.good = true) : FC Tryz.prog 158 [a.av, b.av, c.av] (.int .i64 (sg3 (crs a b c))) := by
 have pa := Sp.b ha
 have pb := Sp.b hb
 have pc := Sp.b hc
 have m1 := mul_b (u := b.x - a.x) (v := c.y - a.y) (m := 2000000) (n := 2000000) (by omega) (by omega) (by omega) (by omega) (by omega)
 have m2 := mul_b (u := b.y - a.y) (v := c.x - a.x) (m := 2000000) (n := 2000000) (by omega) (by omega) (by omega) (by omega) (by omega)
 have e : (b.x - a.x) * (c.y - a.y) - (b.y - a.y) * (c.x - a.x) = crs a b c := rfl
 refine .b Tryz.func158 35 (fun nx K hK => ?_) (hi := by simp [idfL, idf, Sp.av, Sp.cells, Sg.av, Sg.cells])
 refine .q ?_
 refine .q ?_
 refine .sq fun K3 hK3 => ?_
 refine .q ?_ (by simp (disch := first|omega|(simp only[ln];omega)) [e]; rfl)
 refine .c (t := decide (crs a b c < 0)) (fun h32 => ?_) (fun h32 => ?_)
 ·try simp only[dc]at h32
  refine .q ?_
  refine .ret ?_
  exact hK _ _ _ _ trivial ((Fin.m).cast (by unfold sg3; rw [if_pos h32]))
 ·try simp only[dc]at h32
  refine .skip ?_
  refine hK3 _ ?_
  refine .sq fun K6 hK6 => ?_
  refine .q ?_ (by simp (disch := first|omega|(simp only[ln];omega)) [e]; rfl)
  refine .c (t := decide (0 < crs a b c)) (fun h34 => ?_) (fun h34 => ?_)
  ·try simp only[dc]at h34
   refine .q ?_
   refine .ret ?_
   exact hK _ _ _ _ trivial ((Fin.m).cast (by unfold sg3; rw [if_neg h32, if_pos h34]))
  ·try simp only[dc]at h34
   refine .skip ?_
   refine hK6 _ ?_
   refine .q ?_
   refine .ret ?_
   exact hK _ _ _ _ trivial ((Fin.m).cast (by unfold sg3; rw [if_neg h32, if_neg h34]))
end
section
attribute [local simp] idf_numS cells_numS numS_fold Sp.av Sp.cells Sg.av Sg.cells l3A l3C
set_option maxHeartbeats 8000000 in
theorem l4Meet_fc (u v : Sg) (gu : u.good = true) (gv : v.good = true) : FC Tryz.prog 123 [u.av, v.av] (l4V u v) := by
 have ua := good_a gu
 have ub := good_b gu
 have va := good_a gv
 have vb := good_b gv
 have pua := Sp.b ua
 have pub := Sp.b ub
 have pva := Sp.b va
 have pvb := Sp.b vb
 have cA := l4Turn_fc u.a u.b v.a ua ub va
 have cB := l4Turn_fc u.a u.b v.b ua ub vb
 have cC := l4Turn_fc v.a v.b u.a va vb ua
 have cD := l4Turn_fc v.a v.b u.b va vb ub
 have hnw : noWay u v = (decide (0 < sg3 (crs u.a u.b v.a) * sg3 (crs u.a u.b v.b)) || decide (0 < sg3 (crs v.a v.b u.a) * sg3 (crs v.a v.b u.b))) := rfl
 have sAB := mul_sg (crs u.a u.b v.a) (crs u.a u.b v.b)
 have sCD := mul_sg (crs v.a v.b u.a) (crs v.a v.b u.b)
 obtain ⟨A, hA⟩ : ∃ A, crs u.a u.b v.a = A := ⟨_, rfl⟩
 obtain ⟨B, hB⟩ : ∃ B, crs u.a u.b v.b = B := ⟨_, rfl⟩
 rw [hA] at cA sAB hnw
 rw [hB] at cB sAB hnw
 generalize crs v.a v.b u.a = C at *
 generalize crs v.a v.b u.b = D at *
 refine .b Tryz.func123 181 (fun nx K hK => ?_) (hi := by simp [idfL, idf, Sp.av, Sp.cells, Sg.av, Sg.cells]) (hr := idf_l4V u v)
 refine .q ?_
 refine .sq fun K2 hK2 => ?_
 refine .region ?_
 refine .kf 6 cA hb158 ?_
 refine .e ?_
 refine hK2 _ ?_
 refine .sq fun K3 hK3 => ?_
 refine .region ?_
 refine .kf 6 cB hb158 ?_
 refine .e ?_
 refine hK3 _ ?_
 refine .sq fun K4 hK4 => ?_
 refine .region ?_
 refine .kf 6 cC hb158 ?_
 refine .e ?_
 refine hK4 _ ?_
 refine .sq fun K5 hK5 => ?_
 refine .region ?_
 refine .kf 6 cD hb158 ?_
 refine .e ?_
 refine hK5 _ ?_
 refine .sq fun K6 hK6 => ?_
 refine .sq fun K7 hK7 => ?_
 by_cases hA0 : A = 0
 ·have c1 := sg0 hA0
  by_cases hB0 : B = 0
  ·have c2 := sg0 hB0
   have h0 : A = 0 ∧ B = 0 := ⟨hA0, hB0⟩
   refine .r ?_ (by simp (disch := first|omega|(simp only[ln];omega)) [c1, c2]; rfl)
   refine hK7 _ ?_
   refine .c (fun h54 => ?_) (fun h54 => ?_)
   ·try simp only[dc]at h54
    refine .q ?_
    refine .sq fun K9 hK9 => ?_
    have J9 : ∀ s : St, (∃ lo : Sp, lo = lowS u v ∧ s.env 2 = .ptr nx 0 0 ∧ s.env 3 = .ptr (nx + 1) 0 0 ∧ s.env 5 = .ptr (nx + 1 + 1) 0 0 ∧ s.env 6 = .ptr (nx + 1 + 1 + 1) 0 0 ∧ s.env 11 = .ptr (nx + 1 + 1 + 1 + 1) 0 0 ∧ s.heap nx = some (4, [[.int .i64 u.a.x, .int .i64 u.a.y, .int .i64 u.b.x, .int .i64 u.b.y]]) ∧ s.heap (nx + 1) = some (4, [[.int .i64 v.a.x, .int .i64 v.a.y, .int .i64 v.b.x, .int .i64 v.b.y]]) ∧ s.heap (nx + 1 + 1) = some (6, [[.bool false, .nsl, .bool false, .nsl, .bool false, .nsl]]) ∧ s.heap (nx + 1 + 1 + 1) = some (6, [[.bool false, .nsl, .bool false, .nsl, .bool false, .nsl]]) ∧ s.heap (nx + 1 + 1 + 1 + 1) = some (2, [[.int .i64 lo.x, .int .i64 lo.y]]) ∧ (nx + 1 + 1 + 1 + 1) < s.nx ∧ s.nt = 181) → K9 s := by
     rintro ⟨e, H, mm, nt⟩ ⟨lo, hlo, g2, g3, g5, g6, g11, hU, hV, hP, hQ, hL, hm, rfl⟩
     simp only [] at g2 g3 g5 g6 g11 hU hV hP hQ hL hm
     refine hK9 _ ?_
     refine .q ?_ (by simp (disch := first|omega|(simp only[ln];omega)) [g2, g3, g5, g6, g11, hU, hV, hP, hQ, hL]; rfl)
     refine .sq fun K11 hK11 => ?_
     have J11 : ∀ s : St, (∃ (lo hi : Sp) (ib : Nat), lo = lowS u v ∧ hi = highS u v ∧ s.env 2 = .ptr nx 0 0 ∧ s.env 3 = .ptr (nx + 1) 0 0 ∧ s.env 5 = .ptr (nx + 1 + 1) 0 0 ∧ s.env 6 = .ptr (nx + 1 + 1 + 1) 0 0 ∧ s.env 11 = .ptr (nx + 1 + 1 + 1 + 1) 0 0 ∧ s.heap nx = some (4, [[.int .i64 u.a.x, .int .i64 u.a.y, .int .i64 u.b.x, .int .i64 u.b.y]]) ∧ s.heap (nx + 1) = some (4, [[.int .i64 v.a.x, .int .i64 v.a.y, .int .i64 v.b.x, .int .i64 v.b.y]]) ∧ s.heap (nx + 1 + 1) = some (6, [[.bool false, .nsl, .bool false, .nsl, .bool false, .nsl]]) ∧ s.heap (nx + 1 + 1 + 1) = some (6, [[.bool false, .nsl, .bool false, .nsl, .bool false, .nsl]]) ∧ s.heap (nx + 1 + 1 + 1 + 1) = some (2, [[.int .i64 lo.x, .int .i64 lo.y]]) ∧ s.env 12 = .ptr ib 0 0 ∧ s.heap ib = some (2, [[.int .i64 hi.x, .int .i64 hi.y]]) ∧ (nx + 1 + 1 + 1 + 1) < ib ∧ ib < s.nx ∧ s.nt = 181) → K11 s := by
      clear g2 g3 g5 g6 g11 hU hV hP hQ hL hm hlo lo
      rintro ⟨e, H, mm, nt⟩ ⟨lo, hi, ib, hlo, hhi, g2, g3, g5, g6, g11, hU, hV, hP, hQ, hL, g12, hI, hib, hm, rfl⟩
      simp only [] at g2 g3 g5 g6 g11 g12 hU hV hP hQ hL hI hm
      have hli : l4V u v = if lsS hi lo = true then .tup [.int .i64 0, z3, z3] else if lo = hi then .tup [.int .i64 1, l3A lo.x lo.y 1, z3] else .tup [.int .i64 2, l3A lo.x lo.y 1, l3A hi.x hi.y 1] := by unfold l4V; rw [hA, hB, if_pos h0, hlo, hhi]
      have pl := Sp.b (by rw [hlo]; exact low_good gu gv : lo.good = true)
      have ph := Sp.b (by rw [hhi]; exact high_good gu gv : hi.good = true)
      clear hlo hhi
      refine hK11 _ ?_
      refine .sq fun K12 hK12 => ?_
      refine .sq fun K13 hK13 => ?_
      refine .region ?_
      refine .kf 2 (l4Less_fc hi lo) hb128 ?_ (by simp (disch := first|omega|(simp only[ln];omega)) [List.take_succ_cons, List.take_zero, g2, g3, g5, g6, g11, hU, hV, hP, hQ, hL, g12, hI]; rfl) (ha := by simp (disch := first|omega|(simp only[ln];omega)) [idf_Wd', g2, g3, g5, g6, g11, hU, hV, hP, hQ, hL, g12, hI])
      refine .nil ?_
      refine hK13 _ ?_
      refine .c (t := lsS hi lo) (fun h73 => ?_) (fun h73 => ?_)
      ·try simp only[dc]at h73
       refine .q ?_ (by simp (disch := first|omega|(simp only[ln];omega)) [g2, g3, g5, g6, g11, hU, hV, hP, hQ, hL]; rfl)
       refine .ret ?_
       exact hK _ _ _ _ trivial ((Fin.mk (by simp (disch := omega) [aRes, aResL, aRes1, g5, g6]; rfl)).cast (by rw [hli, if_pos h73]; rfl))
      ·try simp only[dc]at h73
       refine .skip ?_
       refine hK12 _ ?_
       refine .sq fun K15 hK15 => ?_
       refine .q ?_ (by simp (disch := first|omega|(simp only[ln];omega)) [g2, g3, g5, g6, g11, hU, hV, hP, hQ, hL, g12, hI, eqW2]; rfl)
       refine .c (t := decide (lo = hi)) (fun h78 => ?_) (fun h78 => ?_)
       ·try simp only[dc]at h78
        refine .sq fun K17 hK17 => ?_
        refine .region ?_
        refine .kf 1 (l3Spot_fc lo.x lo.y (by omega) (by omega) (by omega) (by omega)) hb59 ?_ (by simp (disch := first|omega|(simp only[ln];omega)) [List.take_succ_cons, List.take_zero, g2, g3, g5, g6, g11, hU, hV, hP, hQ, hL]; rfl) (ha := by simp (disch := first|omega|(simp only[ln];omega)) [idf_Wd', g2, g3, g5, g6, g11, hU, hV, hP, hQ, hL])
        refine .e ?_ (by simp (disch := first|omega|(simp only[ln];omega)) [g2, g3, g5, g6, g11, hU, hV, hP, hQ, hL]; rfl)
        refine hK17 _ ?_
        refine .ret ?_
        exact hK _ _ _ _ trivial ((Fin.mk (by simp (disch := omega) [aRes, aResL, aRes1, g5, g6]; rfl)).cast (by rw [hli, if_neg (by rw [h73]; simp), if_pos h78]; rfl))
       ·try simp only[dc]at h78
        refine .skip ?_
        refine hK15 _ ?_
        refine .sq fun K18 hK18 => ?_
        refine .old fun hold => ?_
        refine .d 4 ?_
        refine .k 1 (fun fs19 hfs19 => ?_) (by simp (disch := first|omega|(simp only[ln];omega)) [runDf.eq_def, runF1, runF2, stepF.eq_def, updo.eq_def, hupo.eq_def, opSto1.eq_def, List.take_succ_cons, List.take_zero, g2, g3, g5, g6, g11, hU, hV, hP, hQ, hL, g12, hI]; rfl)
        refine .f (l3Spot_fc lo.x lo.y (by omega) (by omega) (by omega) (by omega)) hb59 ?_ (ha := by simp (disch := first|omega|(simp only[ln];omega)) [idf_Wd', g2, g3, g5, g6, g11, hU, hV, hP, hQ, hL, g12, hI])
        refine DP.runF1q (by simp (disch := first|omega|(simp only[ln];omega)) [runDf.eq_def, runF1, runF2, stepF.eq_def, updo.eq_def, hupo.eq_def, opSto1.eq_def, g2, g3, g5, g6, g11, hU, hV, hP, hQ, hL, g12, hI]; rfl) fun fq20 hfq20 => ?_
        simp [qids, asksB, Op.operands, topId] at hfq20
        simp only [updo]
        refine .f (l3Spot_fc hi.x hi.y (by omega) (by omega) (by omega) (by omega)) hb59 ?_ (ha := by simp (disch := first|omega|(simp only[ln];omega)) [idf_Wd', g2, g3, g5, g6, g11, hU, hV, hP, hQ, hL, g12, hI])
        refine DQ.asg1 _ rfl rfl ?_
        simp only [updo]
        refine DQ.sto1 (m := 4) [2, 3] _ (by simp (disch := first|omega|(simp only[ln];omega)) [runDf.eq_def, runF1, runF2, stepF.eq_def, updo.eq_def, hupo.eq_def, opSto1.eq_def, g2, g3, g5, g6, g11, hU, hV, hP, hQ, hL, g12, hI]; rfl) rfl (by simp only[ln, hfs19];omega) (by kernel_rfl) (by intro k f hk hex; simp only [List.mem_cons, List.not_mem_nil, or_false] at hex; rcases hex with rfl | rfl <;> (simp [List.getElem?_append, hfs19] at hk; subst hk; refine ⟨?_, by first | omega | (simp; done) | (simp; omega)⟩; simp [qids, asksB, Op.operands, Call.operands, topId, numS, numI, Wd, hfq20, g2, g3, g5, g6, g11, g12]; try omega)) ?_
        try simp only []
        refine DQ.sto1 (m := 4) [] _ (by simp (disch := first|omega|(simp only[ln];omega)) [runDf.eq_def, runF1, runF2, stepF.eq_def, updo.eq_def, hupo.eq_def, opSto1.eq_def, g2, g3, g5, g6, g11, hU, hV, hP, hQ, hL, g12, hI]; rfl) rfl (by simp only[ln, hfs19];omega) (by kernel_rfl) (by intro k f hk hex; simp only [List.not_mem_nil] at hex) ?_
        try simp only []
        refine hK18 _ ?_
        refine .ret ?_
        exact hK _ _ _ _ trivial ((Fin.mk (by simp (disch := omega) [aRes, aResL, aRes1, g5, g6]; rfl)).cast (by rw [hli, if_neg (by rw [h73]; simp), if_neg h78]; rfl))
     refine .sq fun K21 hK21 => ?_
     refine .region ?_
     refine .kf 3 (l4Less_fc v.b u.b) hb128 ?_ (by simp (disch := first|omega|(simp only[ln];omega)) [List.take_succ_cons, List.take_zero, g2, g3, g5, g6, g11, hU, hV, hP, hQ, hL]; rfl) (ha := by simp (disch := first|omega|(simp only[ln];omega)) [idf_Wd', g2, g3, g5, g6, g11, hU, hV, hP, hQ, hL])
     refine .nil ?_
     refine hK21 _ ?_
     refine .c (t := lsS v.b u.b) (fun h68 => ?_) (fun h68 => ?_)
     ·try simp only[dc]at h68
      refine .r ?_ (by simp (disch := first|omega|(simp only[ln];omega)) [g2, g3, g5, g6, g11, hU, hV, hP, hQ, hL]; rfl)
      refine J11 _ ?_
      exact ⟨lo, v.b, mm, hlo, by unfold highS; rw [if_pos h68], by simp [g2, g3, g5, g6, g11], by simp [g2, g3, g5, g6, g11], by simp [g2, g3, g5, g6, g11], by simp [g2, g3, g5, g6, g11], by simp [g2, g3, g5, g6, g11], by simp (disch := omega) [hU, hV, hP, hQ, hL], by simp (disch := omega) [hU, hV, hP, hQ, hL], by simp (disch := omega) [hU, hV, hP, hQ, hL], by simp (disch := omega) [hU, hV, hP, hQ, hL], by simp (disch := omega) [hU, hV, hP, hQ, hL], by simp, by simp (disch := omega), by omega, by first | omega | (simp; done) | (simp; omega), rfl⟩
     ·try simp only[dc]at h68
      refine .skip ?_
      refine J11 _ ?_
      exact ⟨lo, u.b, mm, hlo, by unfold highS; rw [h68]; rfl, by simp [g2, g3, g5, g6, g11], by simp [g2, g3, g5, g6, g11], by simp [g2, g3, g5, g6, g11], by simp [g2, g3, g5, g6, g11], by simp [g2, g3, g5, g6, g11], by simp (disch := omega) [hU, hV, hP, hQ, hL], by simp (disch := omega) [hU, hV, hP, hQ, hL], by simp (disch := omega) [hU, hV, hP, hQ, hL], by simp (disch := omega) [hU, hV, hP, hQ, hL], by simp (disch := omega) [hU, hV, hP, hQ, hL], by simp, by simp (disch := omega), by omega, by first | omega | (simp; done) | (simp; omega), rfl⟩
    refine .sq fun K22 hK22 => ?_
    refine .region ?_
    refine .kf 3 (l4Less_fc u.a v.a) hb128 ?_
    refine .nil ?_
    refine hK22 _ ?_
    refine .c (t := lsS u.a v.a) (fun h60 => ?_) (fun h60 => ?_)
    ·try simp only[dc]at h60
     refine .r ?_
     refine J9 _ ?_
     exact ⟨v.a, by unfold lowS; rw [if_pos h60], by simp, by simp, by simp, by simp, by simp, by simp (disch := omega), by simp (disch := omega), by simp (disch := omega), by simp (disch := omega), by simp (disch := omega), by first | omega | (simp; done) | (simp; omega), rfl⟩
    ·try simp only[dc]at h60
     refine .skip ?_
     refine J9 _ ?_
     exact ⟨u.a, by unfold lowS; rw [h60]; rfl, by simp, by simp, by simp, by simp, by simp, by simp (disch := omega), by simp (disch := omega), by simp (disch := omega), by simp (disch := omega), by simp (disch := omega), by first | omega | (simp; done) | (simp; omega), rfl⟩
   ·simp at h54
  ·have c2 := sg1 hB0
   have h0 : ¬ (A = 0 ∧ B = 0) := fun h => hB0 h.2
   refine .r ?_ (by simp (disch := first|omega|(simp only[ln];omega)) [c1, c2]; rfl)
   refine hK7 _ ?_
   refine .c (fun h54 => ?_) (fun h54 => ?_)
   ·simp at h54
   ·try simp only[dc]at h54
    refine .skip ?_
    refine hK6 _ ?_
    refine .sq fun K23 hK23 => ?_
    refine .sq fun K24 hK24 => ?_
    cases q3 : decide (0 < sg3 A * sg3 B)
    ·refine .r ?_ (by simp (disch := first|omega|(simp only[ln];omega)) [q3]; rfl)
     refine hK24 _ ?_
     refine .c (t := decide (0 < sg3 C * sg3 D)) (fun h95 => ?_) (fun h95 => ?_)
     ·try simp only[dc]at h95
      have hw : noWay u v = true := by rw [hnw, q3]; simp [h95]
      refine .q ?_
      refine .ret ?_
      exact hK _ _ _ _ trivial ((Fin.m).cast (by unfold l4V; rw [hA, hB, if_neg h0, if_pos hw]; try rfl))
     ·try simp only[dc]at h95
      have hw : ¬ noWay u v = true := by rw [hnw, q3]; simp; omega
      have m1 := mul_b (u := u.b.x - u.a.x) (v := v.b.y - v.a.y) (m := 2000000) (n := 2000000) (by omega) (by omega) (by omega) (by omega) (by omega)
      have m2 := mul_b (u := u.b.y - u.a.y) (v := v.b.x - v.a.x) (m := 2000000) (n := 2000000) (by omega) (by omega) (by omega) (by omega) (by omega)
      have m3 := mul_b (u := v.a.x - u.a.x) (v := v.b.y - v.a.y) (m := 2000000) (n := 2000000) (by omega) (by omega) (by omega) (by omega) (by omega)
      have m4 := mul_b (u := v.a.y - u.a.y) (v := v.b.x - v.a.x) (m := 2000000) (n := 2000000) (by omega) (by omega) (by omega) (by omega) (by omega)
      have hdn := den_ne gu gv (by rw [hA, hB]; exact h0) hw
      have eD : denS u v = (u.b.x - u.a.x) * (v.b.y - v.a.y) - (u.b.y - u.a.y) * (v.b.x - v.a.x) := rfl
      have eN : numT u v = (v.a.x - u.a.x) * (v.b.y - v.a.y) - (v.a.y - u.a.y) * (v.b.x - v.a.x) := rfl
      have b1 : Bg 1 u.a.x := Bg.i64 (by omega) (by omega)
      have b2 : Bg 1 u.a.y := Bg.i64 (by omega) (by omega)
      have b3 : Bg 1 (denS u v) := Bg.i64 (by rw [eD]; omega) (by rw [eD]; omega)
      have b4 : Bg 1 (numT u v) := Bg.i64 (by rw [eN]; omega) (by rw [eN]; omega)
      have b5 : Bg 1 (u.b.x - u.a.x) := Bg.i64 (by omega) (by omega)
      have b6 : Bg 1 (u.b.y - u.a.y) := Bg.i64 (by omega) (by omega)
      have i1 := l1Int_fc (denS u v) (by rw [eD]; omega) (by rw [eD]; omega)
      have i2 := l1Int_fc (numT u v) (by rw [eN]; omega) (by rw [eN]; omega)
      rw [eD] at i1
      rw [eN] at i2
      have x1 := l1Mul_fc b1 b3 (by omega) (by omega)
      have x2 := l1Mul_fc b5 b4 (by omega) (by omega)
      have x3 := l1Add_fc (b1.mul b3) (b5.mul b4) (by omega) (by omega)
      have y1 := l1Mul_fc b2 b3 (by omega) (by omega)
      have y2 := l1Mul_fc b6 b4 (by omega) (by omega)
      have y3 := l1Add_fc (b2.mul b3) (b6.mul b4) (by omega) (by omega)
      have l3 := l3Make_fc (j := 3) (wayX2 u v) (wayY2 u v) (denS u v) hdn (((b1.mul b3).add (b5.mul b4)).le (by omega)) (((b2.mul b3).add (b6.mul b4)).le (by omega)) (b3.le (by omega)) (by omega) (by omega)
      unfold wayX2 wayY2 at l3
      rw [eD] at x1 x3 y1 y3
      rw [eN] at x2 x3 y2 y3
      simp only [eD, eN] at l3
      have eV : l3A (nX u v) (nY u v) (nW u v) = l3A (nX u v) (nY u v) (nW u v) := rfl
      unfold nX nY nW wayX2 wayY2 at eV
      simp only [eD, eN] at eV
      have hl4 : l4V u v = .tup [.int .i64 1, l3A (nX u v) (nY u v) (nW u v), z3] := by unfold l4V; rw [hA, hB, if_neg h0, if_neg hw]
      unfold nX nY nW wayX2 wayY2 at hl4
      simp only [eD, eN] at hl4
      clear b3 b4 eV
      refine .skip ?_
      refine hK23 _ ?_
      refine .q ?_
      refine .q ?_
      refine .q ?_
      refine .q ?_
      refine .sq fun K30 hK30 => ?_
      refine .region ?_
      refine .kf 7 i1 hb77 ?_
      refine .e ?_
      refine hK30 _ ?_
      refine .sq fun K31 hK31 => ?_
      refine .region ?_
      refine .kf 19 i2 hb77 ?_
      refine .e ?_
      refine hK31 _ ?_
      refine .sq fun K32 hK32 => ?_
      refine .d 12 ?_
      refine .k 3 (fun fs33 hfs33 => ?_)
      refine .f (l1Int_fc u.a.x (by omega) (by omega)) hb77 ?_
      refine .k 1 (fun fs34 hfs34 => ?_)
      refine .f x1 hb113 ?_
      refine .k 1 (fun fs35 hfs35 => ?_)
      refine .f (l1Int_fc (u.b.x - u.a.x) (by omega) (by omega)) hb77 ?_
      refine .k 1 (fun fs36 hfs36 => ?_)
      refine .f x2 hb113 ?_
      refine .f x3 hb152 ?_
      refine .k 1 (fun fs37 hfs37 => ?_)
      refine .r 12 (by simp only[ln, hfs33, hfs34, hfs35, hfs36, hfs37];omega) ?_
      refine hK32 _ ?_
      refine .sq fun K38 hK38 => ?_
      refine .d 12 ?_
      refine .k 3 (fun fs39 hfs39 => ?_)
      refine .f (l1Int_fc u.a.y (by omega) (by omega)) hb77 ?_
      refine .k 1 (fun fs40 hfs40 => ?_)
      refine .f y1 hb113 ?_
      refine .k 1 (fun fs41 hfs41 => ?_)
      refine .f (l1Int_fc (u.b.y - u.a.y) (by omega) (by omega)) hb77 ?_
      refine .k 1 (fun fs42 hfs42 => ?_)
      refine .f y2 hb113 ?_
      refine .f y3 hb152 ?_
      refine .k 1 (fun fs43 hfs43 => ?_)
      refine .r 12 (by simp only[ln, hfs39, hfs40, hfs41, hfs42, hfs43];omega) ?_
      refine hK38 _ ?_
      refine .sq fun K44 hK44 => ?_
      refine .region ?_
      refine .kf 3 l3 hb146 ?_
      refine .e ?_
      refine hK44 _ ?_
      refine .ret ?_
      exact hK _ _ _ _ trivial ((Fin.m).cast (by rw [hl4]; rfl))
    ·refine .r ?_ (by simp (disch := first|omega|(simp only[ln];omega)) [q3]; rfl)
     refine hK24 _ ?_
     refine .c (fun h95 => ?_) (fun h95 => ?_)
     ·try simp only[dc]at h95
      have hw : noWay u v = true := by rw [hnw, q3]; rfl
      refine .q ?_
      refine .ret ?_
      exact hK _ _ _ _ trivial ((Fin.m).cast (by unfold l4V; rw [hA, hB, if_neg h0, if_pos hw]; try rfl))
     ·simp at h95
 ·have c1 := sg1 hA0
  have h0 : ¬ (A = 0 ∧ B = 0) := fun h => hA0 h.1
  refine .r ?_ (by simp (disch := first|omega|(simp only[ln];omega)) [c1]; rfl)
  refine hK7 _ ?_
  refine .c (fun h54 => ?_) (fun h54 => ?_)
  ·simp at h54
  ·try simp only[dc]at h54
   refine .skip ?_
   refine hK6 _ ?_
   refine .sq fun K46 hK46 => ?_
   refine .sq fun K47 hK47 => ?_
   cases q3 : decide (0 < sg3 A * sg3 B)
   ·refine .r ?_ (by simp (disch := first|omega|(simp only[ln];omega)) [q3]; rfl)
    refine hK47 _ ?_
    refine .c (t := decide (0 < sg3 C * sg3 D)) (fun h95 => ?_) (fun h95 => ?_)
    ·try simp only[dc]at h95
     have hw : noWay u v = true := by rw [hnw, q3]; simp [h95]
     refine .q ?_
     refine .ret ?_
     exact hK _ _ _ _ trivial ((Fin.m).cast (by unfold l4V; rw [hA, hB, if_neg h0, if_pos hw]; try rfl))
    ·try simp only[dc]at h95
     have hw : ¬ noWay u v = true := by rw [hnw, q3]; simp; omega
     have m1 := mul_b (u := u.b.x - u.a.x) (v := v.b.y - v.a.y) (m := 2000000) (n := 2000000) (by omega) (by omega) (by omega) (by omega) (by omega)
     have m2 := mul_b (u := u.b.y - u.a.y) (v := v.b.x - v.a.x) (m := 2000000) (n := 2000000) (by omega) (by omega) (by omega) (by omega) (by omega)
     have m3 := mul_b (u := v.a.x - u.a.x) (v := v.b.y - v.a.y) (m := 2000000) (n := 2000000) (by omega) (by omega) (by omega) (by omega) (by omega)
     have m4 := mul_b (u := v.a.y - u.a.y) (v := v.b.x - v.a.x) (m := 2000000) (n := 2000000) (by omega) (by omega) (by omega) (by omega) (by omega)
     have hdn := den_ne gu gv (by rw [hA, hB]; exact h0) hw
     have eD : denS u v = (u.b.x - u.a.x) * (v.b.y - v.a.y) - (u.b.y - u.a.y) * (v.b.x - v.a.x) := rfl
     have eN : numT u v = (v.a.x - u.a.x) * (v.b.y - v.a.y) - (v.a.y - u.a.y) * (v.b.x - v.a.x) := rfl
     have b1 : Bg 1 u.a.x := Bg.i64 (by omega) (by omega)
     have b2 : Bg 1 u.a.y := Bg.i64 (by omega) (by omega)
     have b3 : Bg 1 (denS u v) := Bg.i64 (by rw [eD]; omega) (by rw [eD]; omega)
     have b4 : Bg 1 (numT u v) := Bg.i64 (by rw [eN]; omega) (by rw [eN]; omega)
     have b5 : Bg 1 (u.b.x - u.a.x) := Bg.i64 (by omega) (by omega)
     have b6 : Bg 1 (u.b.y - u.a.y) := Bg.i64 (by omega) (by omega)
     have i1 := l1Int_fc (denS u v) (by rw [eD]; omega) (by rw [eD]; omega)
     have i2 := l1Int_fc (numT u v) (by rw [eN]; omega) (by rw [eN]; omega)
     rw [eD] at i1
     rw [eN] at i2
     have x1 := l1Mul_fc b1 b3 (by omega) (by omega)
     have x2 := l1Mul_fc b5 b4 (by omega) (by omega)
     have x3 := l1Add_fc (b1.mul b3) (b5.mul b4) (by omega) (by omega)
     have y1 := l1Mul_fc b2 b3 (by omega) (by omega)
     have y2 := l1Mul_fc b6 b4 (by omega) (by omega)
     have y3 := l1Add_fc (b2.mul b3) (b6.mul b4) (by omega) (by omega)
     have l3 := l3Make_fc (j := 3) (wayX2 u v) (wayY2 u v) (denS u v) hdn (((b1.mul b3).add (b5.mul b4)).le (by omega)) (((b2.mul b3).add (b6.mul b4)).le (by omega)) (b3.le (by omega)) (by omega) (by omega)
     unfold wayX2 wayY2 at l3
     rw [eD] at x1 x3 y1 y3
     rw [eN] at x2 x3 y2 y3
     simp only [eD, eN] at l3
     have eV : l3A (nX u v) (nY u v) (nW u v) = l3A (nX u v) (nY u v) (nW u v) := rfl
     unfold nX nY nW wayX2 wayY2 at eV
     simp only [eD, eN] at eV
     have hl4 : l4V u v = .tup [.int .i64 1, l3A (nX u v) (nY u v) (nW u v), z3] := by unfold l4V; rw [hA, hB, if_neg h0, if_neg hw]
     unfold nX nY nW wayX2 wayY2 at hl4
     simp only [eD, eN] at hl4
     clear b3 b4 eV
     refine .skip ?_
     refine hK46 _ ?_
     refine .q ?_
     refine .q ?_
     refine .q ?_
     refine .q ?_
     refine .sq fun K53 hK53 => ?_
     refine .region ?_
     refine .kf 7 i1 hb77 ?_
     refine .e ?_
     refine hK53 _ ?_
     refine .sq fun K54 hK54 => ?_
     refine .region ?_
     refine .kf 19 i2 hb77 ?_
     refine .e ?_
     refine hK54 _ ?_
     refine .sq fun K55 hK55 => ?_
     refine .d 12 ?_
     refine .k 3 (fun fs56 hfs56 => ?_)
     refine .f (l1Int_fc u.a.x (by omega) (by omega)) hb77 ?_
     refine .k 1 (fun fs57 hfs57 => ?_)
     refine .f x1 hb113 ?_
     refine .k 1 (fun fs58 hfs58 => ?_)
     refine .f (l1Int_fc (u.b.x - u.a.x) (by omega) (by omega)) hb77 ?_
     refine .k 1 (fun fs59 hfs59 => ?_)
     refine .f x2 hb113 ?_
     refine .f x3 hb152 ?_
     refine .k 1 (fun fs60 hfs60 => ?_)
     refine .r 12 (by simp only[ln, hfs56, hfs57, hfs58, hfs59, hfs60];omega) ?_
     refine hK55 _ ?_
     refine .sq fun K61 hK61 => ?_
     refine .d 12 ?_
     refine .k 3 (fun fs62 hfs62 => ?_)
     refine .f (l1Int_fc u.a.y (by omega) (by omega)) hb77 ?_
     refine .k 1 (fun fs63 hfs63 => ?_)
     refine .f y1 hb113 ?_
     refine .k 1 (fun fs64 hfs64 => ?_)
     refine .f (l1Int_fc (u.b.y - u.a.y) (by omega) (by omega)) hb77 ?_
     refine .k 1 (fun fs65 hfs65 => ?_)
     refine .f y2 hb113 ?_
     refine .f y3 hb152 ?_
     refine .k 1 (fun fs66 hfs66 => ?_)
     refine .r 12 (by simp only[ln, hfs62, hfs63, hfs64, hfs65, hfs66];omega) ?_
     refine hK61 _ ?_
     refine .sq fun K67 hK67 => ?_
     refine .region ?_
     refine .kf 3 l3 hb146 ?_
     refine .e ?_
     refine hK67 _ ?_
     refine .ret ?_
     exact hK _ _ _ _ trivial ((Fin.m).cast (by rw [hl4]; rfl))
   ·refine .r ?_ (by simp (disch := first|omega|(simp only[ln];omega)) [q3]; rfl)
    refine hK47 _ ?_
    refine .c (fun h95 => ?_) (fun h95 => ?_)
    ·try simp only[dc]at h95
     have hw : noWay u v = true := by rw [hnw, q3]; rfl
     refine .q ?_
     refine .ret ?_
     exact hK _ _ _ _ trivial ((Fin.m).cast (by unfold l4V; rw [hA, hB, if_neg h0, if_pos hw]; try rfl))
    ·simp at h95
end

end Go.Proofs.YtdcajfgeleopiaaGreat

/- Walks: FnExactMeet, walked. -/
namespace Go.Proofs.YtdcajfgeleopiaaGreat
open Go Go.RowKit
set_option linter.unusedSimpArgs false
set_option linter.unusedVariables false
set_option maxRecDepth 100000


theorem pt3_fc {j : Nat} {x y w : Int} (bx : Bg j x) (bY : Bg j y) (bw : Bg j w) (hj : j ≤ 68719476736) : FC Tryz.prog 145 [l3A x y w] (.tup [.agg [.int .u64 (pt3 x y w).x.a, .int .u64 (pt3 x y w).x.b, .int .u64 (pt3 x y w).x.c, .int .u64 (pt3 x y w).x.d, .int .u64 (pt3 x y w).y.a, .int .u64 (pt3 x y w).y.b, .int .u64 (pt3 x y w).y.c, .int .u64 (pt3 x y w).y.d, .int .u64 (pt3 x y w).w.a, .int .u64 (pt3 x y w).w.b, .int .u64 (pt3 x y w).w.c, .int .u64 (pt3 x y w).w.d], .bool (sm x y w)]) := l3Point_fc x y w bx bY bw hj
theorem mtS_lin {u v : Sg} (gu : u.good = true) (gv : v.good = true) (h0 : crs u.a u.b v.a = 0 ∧ crs u.a u.b v.b = 0) : mtF meetS u v = linP u v := by unfold mtF meetS; rw [gu, gv, if_pos h0]; rfl
theorem mtS_no {u v : Sg} (gu : u.good = true) (gv : v.good = true) (h0 : ¬ (crs u.a u.b v.a = 0 ∧ crs u.a u.b v.b = 0)) (hw : noWay u v = true) : mtF meetS u v = (0, pt0, pt0) := by unfold mtF meetS; rw [gu, gv, if_neg h0, if_pos hw]; rfl
theorem mtS_way {u v : Sg} (gu : u.good = true) (gv : v.good = true) (h0 : ¬ (crs u.a u.b v.a = 0 ∧ crs u.a u.b v.b = 0)) (hw : ¬ noWay u v = true) : mtF meetS u v = (1, pt3 (nX u v) (nY u v) (nW u v), pt0) := by
  have e : mkP (wayX2 u v) (wayY2 u v) (denS u v) = pt3 (nX u v) (nY u v) (nW u v) := by unfold mkP; rw [if_neg (den_ne gu gv h0 hw)]; rfl
  unfold mtF meetS; rw [gu, gv, if_neg h0, if_neg hw, e]; rfl
theorem way_bg {u v : Sg} (gu : u.good = true) (gv : v.good = true) (h0 : ¬ (crs u.a u.b v.a = 0 ∧ crs u.a u.b v.b = 0)) (hw : ¬ noWay u v = true) : Bg 3 (nX u v) ∧ Bg 3 (nY u v) ∧ Bg 3 (nW u v) := by
  have pua := Sp.b (good_a gu)
  have pub := Sp.b (good_b gu)
  have pva := Sp.b (good_a gv)
  have pvb := Sp.b (good_b gv)
  have m1 := mul_b (u := u.b.x - u.a.x) (v := v.b.y - v.a.y) (m := 2000000) (n := 2000000) (by omega) (by omega) (by omega) (by omega) (by omega)
  have m2 := mul_b (u := u.b.y - u.a.y) (v := v.b.x - v.a.x) (m := 2000000) (n := 2000000) (by omega) (by omega) (by omega) (by omega) (by omega)
  have m3 := mul_b (u := v.a.x - u.a.x) (v := v.b.y - v.a.y) (m := 2000000) (n := 2000000) (by omega) (by omega) (by omega) (by omega) (by omega)
  have m4 := mul_b (u := v.a.y - u.a.y) (v := v.b.x - v.a.x) (m := 2000000) (n := 2000000) (by omega) (by omega) (by omega) (by omega) (by omega)
  have b3 : Bg 1 (denS u v) := Bg.i64 (by unfold denS; omega) (by unfold denS; omega)
  have b4 : Bg 1 (numT u v) := Bg.i64 (by unfold numT; omega) (by unfold numT; omega)
  have hg := gcd3_pos (x := wayX2 u v) (y := wayY2 u v) (den_ne gu gv h0 hw)
  have bx : Bg 3 (wayX2 u v) := (((Bg.i64 (n := u.a.x) (by omega) (by omega)).mul b3).add ((Bg.i64 (n := u.b.x - u.a.x) (by omega) (by omega)).mul b4)).le (by omega)
  have bY : Bg 3 (wayY2 u v) := (((Bg.i64 (n := u.a.y) (by omega) (by omega)).mul b3).add ((Bg.i64 (n := u.b.y - u.a.y) (by omega) (by omega)).mul b4)).le (by omega)
  exact ⟨bx.nrm.div hg, bY.nrm.div hg, (b3.le (by omega)).nrm.div hg⟩



end Go.Proofs.YtdcajfgeleopiaaGreat

/- Walks: rings, by the program. -/
namespace Go.Proofs.YtdcajfgeleopiaaGreat
open Go Go.RowKit
set_option linter.unusedSimpArgs false
set_option linter.unusedVariables false
set_option maxRecDepth 100000
attribute [local simp] szT2 byT2 agT2 unT2 zoT2 szT3 byT3 agT3 unT3 zoT3 szT32 byT32 agT32 elT32 unT32 zoT32 szT34 byT34 agT34 flT34 fdT34_0 zoT34 szT36 byT36 agT36 flT36 fdT36_0 fdT36_1 fdT36_2 fdT36_3 zoT36 szT38 byT38 agT38 flT38 fdT38_0 fdT38_1 fdT38_2 zoT38 szT44 byT44 agT44 elT44 unT44 zoT44 szT53 byT53 agT53 flT53 fdT53_0 fdT53_1 zoT53 szT55 byT55 agT55 flT55 fdT55_0 fdT55_1 zoT55

theorem rg_at {r : List Sp} {i : Nat} (h : i < r.length) : (r.map Sp.cells)[i]? = some [.int .i64 (gs r i).x, .int .i64 (gs r i).y] := by rw [List.getElem?_map, gs_get h]; rfl
theorem sds_at {r : List Sp} {i : Nat} (h : i < r.length) : ((sds r).map Sg.cells)[i]? = some [.int .i64 (sd r i).a.x, .int .i64 (sd r i).a.y, .int .i64 (sd r i).b.x, .int .i64 (sd r i).b.y] := by rw [List.getElem?_map, sds_get h]; rfl
theorem sds_take {r : List Sp} {i : Nat} (h : i < r.length) : ((sds r).take (i + 1)).map Sg.cells = ((sds r).take i).map Sg.cells ++ [[.int .i64 (segO (gs r i) (nx1 r i)).a.x, .int .i64 (segO (gs r i) (nx1 r i)).a.y, .int .i64 (segO (gs r i) (nx1 r i)).b.x, .int .i64 (segO (gs r i) (nx1 r i)).b.y]] := by
  rw [List.take_add_one, sds_get h]; simp [Sg.cells, sd]
theorem ite_tmod {n k : Nat} (h : k < n) : Int.tmod ((k : Int) + 1) (n : Int) = (((k + 1) % n : Nat) : Int) := (Int.ofNat_tmod (k + 1) n).symm

section
attribute [local simp] Sp.av Sp.cells Sg.av Sg.cells
theorem indexSp_fc (l : List Sp) (p : Sp) (hl : l.length ≤ 9223372036854775800) : FC Tryz.prog 162 [.isl (l.map Sp.cells), p.av] (.int .i64 (ixI l p : Int)) := by
 refine .b Tryz.func162 19 (fun nx K hK => ?_) (hi := by simp [idfL, idf, idfLL_iff, Sp.av, Sp.cells, Sg.av, Sg.cells])
 refine .q ?_
 refine .sq fun K2 hK2 => ?_
 refine .q ?_ (by simp (disch := first|omega|(simp only[ln];omega)) [List.length_map]; rfl)
 refine .block ?_
 
 refine .loop (fun N s => ∃ i : Nat, N = l.length - i ∧ i ≤ l.length ∧ (ixI l p = ixGo (l.drop i) i p) ∧ s.env 0 = .isl (l.map Sp.cells) ∧ s.env 3 = .ptr nx 0 0 ∧ s.env 7 = .int .i64 (l.length : Int) ∧ s.env 8 = .int .i64 (i : Int) ∧ s.heap nx = some (2, [[.int .i64 p.x, .int .i64 p.y]]) ∧ nx < s.nx ∧ s.nt = 19) (l.length) (by refine ⟨0, by omega, by omega, rfl, ?_, ?_, ?_, ?_, ?_, ?_, rfl⟩ <;> first|(simp (disch := omega);done)|omega|(simp;done)|(simp;omega)) ?_
 rintro N ⟨e, H, mm, nt⟩ ⟨i, rfl, hi, hv, g0, g3, g7, g8, Hp, xp, rfl⟩
 simp only [] at g0 g3 g7 g8 Hp xp
 refine .q ?_ (by simp (disch := first|omega|(simp only[ln];omega)) [g7, g8]; rfl)
 refine .sq fun K5 hK5 => ?_
 refine .c (fun h9 => ?_) (fun h9 => ?_)
 ·try simp only[dc]at h9
  have hi' : i < l.length := by omega
  have hat := rg_at hi'
  rw [drop_gs hi', ixGo] at hv
  refine .skip ?_
  refine hK5 _ ?_
  refine .sq fun K6 hK6 => ?_
  refine .block ?_
  refine .q ?_ (by simp (disch := first|omega|(simp only[ln];omega)) [g8]; rfl)
  refine .sq fun K8 hK8 => ?_
  refine .df 6 ?_ (by simp (disch := first|omega|(simp only[ln];omega)) [runDf.eq_def, runF1, runF2, stepF.eq_def, updo.eq_def, hupo.eq_def, opSto1.eq_def, if_pos, g0, g3, Hp, g8, hat, eqW2, List.length_map]; rfl)
  refine hK8 _ ?_
  refine .c (t := decide (p = gs l i)) (fun h16 => ?_) (fun h16 => ?_)
  ·try simp only[dc]at h16
   rw [if_pos h16.symm] at hv
   refine .q ?_
   refine .ret ?_
   exact hK _ _ _ _ trivial ((Fin.m).cast (by rw [hv]))
  ·try simp only[dc]at h16
   rw [if_neg (Ne.symm h16)] at hv
   refine .skip ?_
   refine hK6 _ ?_
   refine .r ?_ (by simp (disch := first|omega|(simp only[ln];omega)) [g8]; rfl)
   refine ⟨l.length - (i + 1), by omega, i + 1, rfl, by omega, hv, ?_, ?_, ?_, ?_, ?_, ?_, rfl⟩ <;> first|(simp (disch := omega) [g0, g3, g7, g8, Hp];done)|omega|(simp;done)|(simp;omega)
 ·try simp only[dc]at h9
  have hin : i = l.length := by omega
  rw [hin, List.drop_length, ixGo] at hv
  refine .exit ?_
  refine hK2 _ ?_
  refine .q ?_
  refine .ret ?_
  exact hK _ _ _ _ trivial ((Fin.m).cast (by rw [hv]))
theorem containsSp_fc (l : List Sp) (p : Sp) (hl : l.length ≤ 9223372036854775800) : FC Tryz.prog 133 [.isl (l.map Sp.cells), p.av] (.bool (decide (p ∈ l))) := by
 refine .b Tryz.func133 9 (fun nx K hK => ?_) (hi := by simp [idfL, idf, idfLL_iff, Sp.av, Sp.cells, Sg.av, Sg.cells])
 refine .q ?_
 refine .sq fun K2 hK2 => ?_
 refine .region ?_
 refine .kf 2 (indexSp_fc l p hl) hb162 ?_
 refine .e ?_
 refine hK2 _ ?_
 refine .ret ?_
 exact hK _ _ _ _ trivial ((Fin.m).cast (by rw [← ixI_mem]))
theorem segOf_fc (a b : Sp) : FC Tryz.prog 163 [a.av, b.av] (.agg [.int .i64 (segO a b).a.x, .int .i64 (segO a b).a.y, .int .i64 (segO a b).b.x, .int .i64 (segO a b).b.y]) := by
 refine .b Tryz.func163 15 (fun nx K hK => ?_) (hi := by simp [idfL, idf, idfLL_iff, Sp.av, Sp.cells, Sg.av, Sg.cells])
 refine .q ?_
 refine .sq fun K2 hK2 => ?_
 refine .sq fun K3 hK3 => ?_
 refine .region ?_
 refine .kf 2 (cmpSpots_fc a b) hb117 ?_
 refine .e ?_
 refine hK3 _ ?_
 refine .c (t := lsS b a) (fun h8 => ?_) (fun h8 => ?_) (by simp (disch := first|omega|(simp only[ln];omega)) [lsS_dec2])
 ·try simp only[dc]at h8
  refine .q ?_
  refine .ret ?_
  exact hK _ _ _ _ trivial ((Fin.mk (by simp (disch := omega) [aRes, aResL, aRes1]; rfl)).cast (by unfold segO; rw [if_pos h8]))
 ·try simp only[dc]at h8
  refine .skip ?_
  refine hK2 _ ?_
  refine .q ?_
  refine .ret ?_
  exact hK _ _ _ _ trivial ((Fin.mk (by simp (disch := omega) [aRes, aResL, aRes1]; rfl)).cast (by unfold segO; rw [h8]; rfl))
set_option maxHeartbeats 1000000 in
theorem sides_fc (r : List Sp) (hl : r.length ≤ 1099511627776) : FC Tryz.prog 134 [.agg [.isl (r.map Sp.cells)]] (.isl ((sds r).map Sg.cells)) := by
 refine .b Tryz.func134 32 (fun nx K hK => ?_) (hi := by simp [idfL, idf, idfLL_iff, Sp.av, Sp.cells, Sg.av, Sg.cells]) (hr := by simp [idf, idfLL_iff, Sg.cells, idfL])
 refine .q ?_
 refine .q ?_
 refine .sq fun K3 hK3 => ?_
 refine .q ?_ (by simp (disch := first|omega|(simp only[ln];omega)) [List.length_map]; rfl)
 refine .block ?_
 
 refine .loop (fun N s => ∃ i : Nat, ∃ id : Nat, N = r.length - i ∧ i ≤ r.length ∧ (nx < id) ∧ s.env 1 = .ptr nx 0 0 ∧ s.env 3 = .osl id 0 i ∧ s.env 8 = .isl (r.map Sp.cells) ∧ s.env 9 = .int .i64 (r.length : Int) ∧ s.env 10 = .int .i64 (i : Int) ∧ s.heap nx = some (1, [[.isl (r.map Sp.cells)]]) ∧ nx < s.nx ∧ s.heap id = some (4, ((sds r).take i).map Sg.cells) ∧ id < s.nx ∧ s.nt = 32) (r.length) (by refine ⟨0, nx + 1, by omega, by omega, by omega, ?_, ?_, ?_, ?_, ?_, ?_, ?_, ?_, ?_, rfl⟩ <;> first|(simp (disch := omega);done)|omega|(simp;done)|(simp;omega)) ?_
 rintro N ⟨e, H, mm, nt⟩ ⟨i, id, rfl, hi, hid, g1, g3, g8, g9, g10, Hr, xr, Ho, xo, rfl⟩
 simp only [] at g1 g3 g8 g9 g10 Hr xr Ho xo
 refine .q ?_ (by simp (disch := first|omega|(simp only[ln];omega)) [g9, g10]; rfl)
 refine .sq fun K6 hK6 => ?_
 refine .c (fun h11 => ?_) (fun h11 => ?_)
 ·try simp only[dc]at h11
  have hi' : i < r.length := by omega
  have hat := rg_at hi'
  obtain ⟨j, hj⟩ : ∃ j : Nat, j = (i + 1) % r.length := ⟨_, rfl⟩
  have hjl : j < r.length := by rw [hj]; exact nx1_lt hi'
  have htm : Int.tmod ((i : Int) + 1) (r.length : Int) = (j : Int) := by rw [hj]; exact ite_tmod hi'
  have hat2 := rg_at hjl
  have hnj : gs r j = nx1 r i := by rw [hj]; rfl
  have hst := sds_take hi'
  have hc1 : i ≤ min i (sds r).length := by rw [sds_len]; omega
  have hc2 : (i + 1) * 32 ≤ 140737488355328 := by omega
  have hc3 : i ≤ 9223372036854775806 := by omega
  have hne : ¬ r = [] := by intro h; rw [h] at hi'; simp at hi'
  have htk : ((sds r).take i).length = i := by rw [List.length_take, sds_len]; omega
  refine .skip ?_
  refine hK6 _ ?_
  refine .sq fun K7 hK7 => ?_
  refine .block ?_
  refine .q ?_ (by simp (disch := first|omega|(simp only[ln];omega)) [if_pos, g8, g10, hat, List.length_map]; rfl)
  refine AWP.drawT 14 Tryz.checked.mixed (by kernel_rfl) (by kernel_rfl) ?_
  simp only [List.take_succ_cons, List.take_zero, List.drop_succ_cons, List.drop_zero]
  refine .k 12 (fun fs9 hfs9 => ?_) (by simp (disch := first|omega|(simp only[ln];omega)) [runDf.eq_def, runF1, runF2, stepF.eq_def, updo.eq_def, hupo.eq_def, opSto1.eq_def, List.take_succ_cons, List.take_zero, if_pos, g1, g3, Hr, Ho, hat, hat2, htm, hne, htk, hc1, hc2, hc3, List.length_map]; rfl)
  refine .f (segOf_fc (gs r i) (gs r j)) hb163 ?_ (ha := by simp (disch := first|omega|(simp only[ln];omega)) [idf_Wd', if_pos, g1, g3, Hr, Ho, hat, hat2, htm, hne, htk, hc1, hc2, hc3, List.length_map])
  refine .k 1 (fun fs10 hfs10 => ?_) (by simp (disch := first|omega|(simp only[ln];omega)) [runDf.eq_def, runF1, runF2, stepF.eq_def, updo.eq_def, hupo.eq_def, opSto1.eq_def, List.take_succ_cons, List.take_zero, if_pos, g1, g3, Hr, Ho, hat, hat2, htm, hne, htk, hc1, hc2, hc3, List.length_map]; rfl)
  simp only [DP]
  refine AOPS.opapp (by simp (disch := first|omega|(simp only[ln];omega)) [opApp.eq_def, aSrc_isl, aSrc_osl, aSrc_nsl, aSrc_int, wd_app, wd_app2, if_pos, wd_append, wd_take, wd_drop, List.nil_append, g1, g3, Hr, Ho, hat, hat2, htm, hne, htk, hc1, hc2, hc3, List.length_map, src_Wd' (P := Tryz.prog) elT44]; first | rfl | exact ⟨rfl, rfl⟩ | exact ⟨rfl, rfl, rfl⟩) (by simp) (by simp) ?_
  simp only [puts_some, hdrop]
  refine .e ?_ (by simp (disch := first|omega|(simp only[ln];omega)) [if_pos, g1, g3, Hr, Ho, hat, hat2, htm, hne, htk, hc1, hc2, hc3, List.length_map]; rfl)
  refine hK7 _ ?_
  refine .r ?_ (by simp (disch := first|omega|(simp only[ln];omega)) [g10]; rfl)
  refine ⟨r.length - (i + 1), by omega, i + 1, mm + 1 + 14, rfl, by omega, by omega, ?_, ?_, ?_, ?_, ?_, ?_, ?_, ?_, ?_, rfl⟩ <;> first|(simp (disch := omega) [g1, g3, g8, g9, g10, Hr, Ho, hst, hnj, List.take_take];done)|omega|(simp;done)|(simp;omega)
 ·try simp only[dc]at h11
  have hin : i = r.length := by omega
  have htl : (sds r).take i = sds r := by rw [hin, ← sds_len r, List.take_length]
  rw [htl] at Ho
  subst hin
  refine .exit ?_
  refine hK3 _ ?_
  refine .q ?_ (by simp (disch := first|omega|(simp only[ln];omega)) [g3]; rfl)
  refine .ret ?_
  exact hK _ _ _ _ trivial (((Fin.mk (r := .osl id 0 r.length) (by simp [aRes, aResL, aRes1])).freeze (id := id) (z := 4) (es := (sds r).map Sg.cells) (by simp [Ho])).cast (by rw [fz_fill _ _ (sds_len r).symm]))
set_option maxHeartbeats 1000000 in
theorem area2I_fc (r : List Sp) (hg : spsGood r) (hl : r.length ≤ 12) : FC Tryz.prog 70 [.agg [.isl (r.map Sp.cells)]] (.int .i64 (area r : Int)) := by
 refine .b Tryz.func70 40 (fun nx K hK => ?_) (hi := by simp [idfL, idf, idfLL_iff, Sp.av, Sp.cells, Sg.av, Sg.cells])
 refine .q ?_
 refine .q ?_
 refine .sq fun K3 hK3 => ?_
 refine .q ?_ (by simp (disch := first|omega|(simp only[ln];omega)) [List.length_map]; rfl)
 refine .block ?_
 
 refine .loop (fun N s => ∃ i : Nat, N = r.length - i ∧ i ≤ r.length ∧ s.env 1 = .ptr nx 0 0 ∧ s.env 3 = .int .i64 (arS r i : Int) ∧ s.env 8 = .isl (r.map Sp.cells) ∧ s.env 9 = .int .i64 (r.length : Int) ∧ s.env 10 = .int .i64 (i : Int) ∧ s.heap nx = some (1, [[.isl (r.map Sp.cells)]]) ∧ nx < s.nx ∧ s.nt = 40) (r.length) (by refine ⟨0, by omega, by omega, ?_, ?_, ?_, ?_, ?_, ?_, ?_, rfl⟩ <;> first|(simp (disch := omega) [arS];done)|omega|(simp;done)|(simp;omega)) ?_
 rintro N ⟨e, H, mm, nt⟩ ⟨i, rfl, hi, g1, g3, g8, g9, g10, Hr, xr, rfl⟩
 simp only [] at g1 g3 g8 g9 g10 Hr xr
 refine .q ?_ (by simp (disch := first|omega|(simp only[ln];omega)) [g9, g10]; rfl)
 refine .sq fun K6 hK6 => ?_
 refine .c (fun h11 => ?_) (fun h11 => ?_)
 ·try simp only[dc]at h11
  have hi' : i < r.length := by omega
  have hat := rg_at hi'
  obtain ⟨j, hj⟩ : ∃ j : Nat, j = (i + 1) % r.length := ⟨_, rfl⟩
  have hjl : j < r.length := by rw [hj]; exact nx1_lt hi'
  have htm : Int.tmod ((i : Int) + 1) (r.length : Int) = (j : Int) := by rw [hj]; exact ite_tmod hi'
  have hat2 := rg_at hjl
  have hnj : gs r j = nx1 r i := by rw [hj]; rfl
  have hne : ¬ r = [] := by intro h; rw [h] at hi'; simp at hi'
  have tb := arS_term (hg _ (gs_mem hi')) (hg _ (gs_mem hjl))
  have sb := arS_b hg i hi
  have hst : arS r (i + 1) = arS r i + ((gs r i).x * (gs r j).y - (gs r i).y * (gs r j).x) := by rw [hnj]; rfl
  refine .skip ?_
  refine hK6 _ ?_
  refine .sq fun K7 hK7 => ?_
  refine .block ?_
  refine .q ?_ (by simp (disch := first|omega|(simp only[ln];omega)) [if_pos, g8, g10, hat, List.length_map]; rfl)
  refine .sq fun K9 hK9 => ?_
  refine .df 11 ?_ (by simp (disch := first|omega|(simp only[ln];omega)) [runDf.eq_def, runF1, runF2, stepF.eq_def, updo.eq_def, hupo.eq_def, opSto1.eq_def, if_pos, g1, Hr, hat, hat2, htm, hne, List.length_map]; rfl)
  refine hK9 _ ?_
  refine .r ?_ (by simp (disch := first|omega|(simp only[ln];omega)) [g3, hst]; rfl)
  refine hK7 _ ?_
  refine .r ?_ (by simp (disch := first|omega|(simp only[ln];omega)) [g10]; rfl)
  refine ⟨r.length - (i + 1), by omega, i + 1, rfl, by omega, ?_, ?_, ?_, ?_, ?_, ?_, ?_, rfl⟩ <;> first|(simp (disch := omega) [g1, g3, g8, g9, g10, Hr, hst];done)|omega|(simp;done)|(simp;omega)
 ·try simp only[dc]at h11
  have hin : i = r.length := by omega
  subst hin
  refine .exit ?_
  refine hK3 _ ?_
  refine .q ?_ (by simp (disch := first|omega|(simp only[ln];omega)) [g3]; rfl)
  refine .ret ?_
  exact hK _ _ _ _ trivial ((Fin.m).cast (by rfl))
set_option maxHeartbeats 4000000 in
theorem ringFaultI_fc (r : List Sp) (hl : r.length ≤ 1099511627776) : FC Tryz.prog 83 [.agg [.isl (r.map Sp.cells)]] (.int .i64 (rgF r : Int)) := by
 refine .b Tryz.func83 103 (fun nx K hK => ?_) (hi := by simp [idfL, idf, idfLL_iff, Sp.av, Sp.cells, Sg.av, Sg.cells])
 refine .q ?_
 refine .q ?_ (by simp (disch := first|omega|(simp only[ln];omega)) [List.length_map]; rfl)
 refine .sq fun K3 hK3 => ?_
 refine .block ?_
 refine .q ?_
 refine .c (t := decide ((r.length : Int) < 3)) (fun h20 => ?_) (fun h20 => ?_)
 ·try simp only[dc]at h20
  refine .q ?_
  refine .ret ?_
  exact hK _ _ _ _ trivial ((Fin.m).cast (by rw [rgF_few (by omega)]))
 ·try simp only[dc]at h20
  refine .q ?_
  refine .c (t := decide (12 < (r.length : Int))) (fun h23 => ?_) (fun h23 => ?_)
  ·try simp only[dc]at h23
   refine .q ?_
   refine .ret ?_
   exact hK _ _ _ _ trivial ((Fin.m).cast (by rw [rgF_many (by omega)]))
  ·try simp only[dc]at h23
   have h3 : ¬ r.length < 3 := by omega
   have h12 : ¬ 12 < r.length := by omega
   refine .skip ?_
   refine hK3 _ ?_
   refine .sq fun K8 hK8 => ?_
   refine .q ?_ (by simp (disch := first|omega|(simp only[ln];omega)) [List.length_map]; rfl)
   refine .block ?_
   
   refine .loop (fun N s => ∃ i : Nat, N = r.length - i ∧ i ≤ r.length ∧ (∀ j, j < i → (gs r j).good = true) ∧ s.env 1 = .ptr nx 0 0 ∧ s.env 3 = .int .i64 (r.length : Int) ∧ s.env 27 = .isl (r.map Sp.cells) ∧ s.env 28 = .int .i64 (r.length : Int) ∧ s.env 29 = .int .i64 (i : Int) ∧ s.heap nx = some (1, [[.isl (r.map Sp.cells)]]) ∧ nx < s.nx ∧ s.nt = 103) (r.length) (by refine ⟨0, by omega, by omega, fun j h => by omega, ?_, ?_, ?_, ?_, ?_, ?_, ?_, rfl⟩ <;> first|(simp (disch := omega);done)|omega|(simp;done)|(simp;omega)) ?_
   rintro N ⟨e, H, mm, nt⟩ ⟨i, rfl, hi, hgd, g1, g3, g27, g28, g29, Hr, xr, rfl⟩
   simp only [] at g1 g3 g27 g28 g29 Hr xr
   refine .q ?_ (by simp (disch := first|omega|(simp only[ln];omega)) [g28, g29]; rfl)
   refine .sq fun K11 hK11 => ?_
   refine .c (fun h30 => ?_) (fun h30 => ?_)
   ·try simp only[dc]at h30
    have hi' : i < r.length := by omega
    have hat := rg_at hi'
    refine .skip ?_
    refine hK11 _ ?_
    refine .sq fun K12 hK12 => ?_
    refine .block ?_
    refine .q ?_ (by simp (disch := first|omega|(simp only[ln];omega)) [if_pos, g27, g29, hat, List.length_map]; rfl)
    refine .sq fun K14 hK14 => ?_
    refine .region ?_
    refine .kf 1 (spotOkI_fc (gs r i)) hb116 ?_
    refine .e ?_
    refine hK14 _ ?_
    refine .c (t := !(gs r i).good) (fun h35 => ?_) (fun h35 => ?_)
    ·try simp only[dc]at h35
     have hb : ¬ (gs r i).good = true := by simpa using h35
     refine .q ?_
     refine .ret ?_
     exact hK _ _ _ _ trivial ((Fin.m).cast (by rw [rgF_coord h3 h12 (gs_mem hi') hb]))
    ·try simp only[dc]at h35
     have hg1 : (gs r i).good = true := by simpa using h35
     refine .skip ?_
     refine hK12 _ ?_
     refine .r ?_ (by simp (disch := first|omega|(simp only[ln];omega)) [g29]; rfl)
     refine ⟨r.length - (i + 1), by omega, i + 1, rfl, by omega, fun j h => by rcases Nat.lt_succ_iff_lt_or_eq.1 h with h | h; exact hgd j h; rw [h]; exact hg1, ?_, ?_, ?_, ?_, ?_, ?_, ?_, rfl⟩ <;> first|(simp (disch := omega) [g1, g3, g27, g28, g29, Hr];done)|omega|(simp;done)|(simp;omega)
   ·try simp only[dc]at h30
    have hG : spsGood r := spsGood_of (by omega) hgd
    clear hgd
    refine .exit ?_
    refine hK8 _ ?_
    refine .sq fun K16 hK16 => ?_
    refine .q ?_ (by simp (disch := first|omega|(simp only[ln];omega)) [g1, Hr, List.length_map]; rfl)
    refine .block ?_
    
    refine .loop (fun N s => ∃ i : Nat, N = r.length - i ∧ i ≤ r.length ∧ (∀ j k, k < j → j < i → gs r j ≠ gs r k) ∧ s.env 1 = .ptr nx 0 0 ∧ s.env 3 = .int .i64 (r.length : Int) ∧ s.env 38 = .isl (r.map Sp.cells) ∧ s.env 39 = .int .i64 (r.length : Int) ∧ s.env 40 = .int .i64 (i : Int) ∧ s.heap nx = some (1, [[.isl (r.map Sp.cells)]]) ∧ nx < s.nx ∧ s.nt = 103) (r.length) (by refine ⟨0, by omega, by omega, fun j k h h' => by omega, ?_, ?_, ?_, ?_, ?_, ?_, ?_, rfl⟩ <;> first|(simp (disch := omega) [g1, g3, Hr];done)|omega|(simp;done)|(simp;omega)) ?_
    clear g1 g3 g27 g28 g29 Hr
    rintro N ⟨e, H, mm, nt⟩ ⟨i, rfl, hi, hnd, g1, g3, g38, g39, g40, Hr, xr, rfl⟩
    simp only [] at g1 g3 g38 g39 g40 Hr xr
    refine .q ?_ (by simp (disch := first|omega|(simp only[ln];omega)) [g39, g40]; rfl)
    refine .sq fun K19 hK19 => ?_
    refine .c (fun h41 => ?_) (fun h41 => ?_)
    ·try simp only[dc]at h41
     have hi' : i < r.length := by omega
     have hat := rg_at hi'
     refine .skip ?_
     refine hK19 _ ?_
     refine .sq fun K20 hK20 => ?_
     refine .block ?_
     refine .q ?_ (by simp (disch := first|omega|(simp only[ln];omega)) [if_pos, g38, g40, hat, List.length_map]; rfl)
     refine .sq fun K22 hK22 => ?_
     refine .d 6 ?_
     refine .k 5 (fun fs23 hfs23 => ?_) (by simp (disch := first|omega|(simp only[ln];omega)) [runDf.eq_def, runF1, runF2, stepF.eq_def, updo.eq_def, hupo.eq_def, opSto1.eq_def, List.take_succ_cons, List.take_zero, if_pos, g1, Hr, hi, List.map_take, List.length_map]; rfl)
     refine .f (containsSp_fc (r.take i) (gs r i) (by rw [List.length_take]; omega)) hb133 ?_ (ha := by simp (disch := first|omega|(simp only[ln];omega)) [idf_Wd', if_pos, g1, Hr, hi, List.map_take, List.length_map])
     refine .r 6 (by simp only[ln, hfs23];omega) ?_ (by simp (disch := first|omega|(simp only[ln];omega)) [runDf.eq_def, runF1, runF2, stepF.eq_def, updo.eq_def, hupo.eq_def, opSto1.eq_def, if_pos, g1, Hr, hi, List.map_take, List.length_map]; rfl)
     refine hK22 _ ?_
     refine .c (t := decide (gs r i ∈ r.take i)) (fun h50 => ?_) (fun h50 => ?_)
     ·try simp only[dc]at h50
      obtain ⟨k, hk, he⟩ := (take_gs hi).1 h50
      refine .q ?_
      refine .ret ?_
      exact hK _ _ _ _ trivial ((Fin.m).cast (by rw [rgF_twice h3 h12 hG ⟨i, k, hk, hi', he.symm⟩]))
     ·try simp only[dc]at h50
      have hn1 : ∀ k, k < i → gs r i ≠ gs r k := fun k hk he => h50 ((take_gs hi).2 ⟨k, hk, he.symm⟩)
      refine .skip ?_
      refine hK20 _ ?_
      refine .r ?_ (by simp (disch := first|omega|(simp only[ln];omega)) [g40]; rfl)
      refine ⟨r.length - (i + 1), by omega, i + 1, rfl, by omega, fun j k h h' => by rcases Nat.lt_succ_iff_lt_or_eq.1 h' with h' | h'; exact hnd j k h h'; rw [h']; exact hn1 k (by omega), ?_, ?_, ?_, ?_, ?_, ?_, ?_, rfl⟩ <;> first|(simp (disch := omega) [g1, g3, g38, g39, g40, Hr];done)|omega|(simp;done)|(simp;omega)
    ·try simp only[dc]at h41
     have hD : ¬ rgDup r := by rintro ⟨j, k, q1, q2, q3⟩; exact hnd j k q1 (by omega) q3
     clear hnd
     refine .exit ?_
     refine hK16 _ ?_
     refine .sq fun K25 hK25 => ?_
     refine .region ?_
     refine .kf 1 (sides_fc r hl) hb134 ?_ (by simp (disch := first|omega|(simp only[ln];omega)) [List.take_succ_cons, List.take_zero, g1, Hr]; rfl) (ha := by simp (disch := first|omega|(simp only[ln];omega)) [idf_Wd', g1, Hr])
     refine .e ?_ (by simp (disch := first|omega|(simp only[ln];omega)) [g1, Hr]; rfl)
     refine hK25 _ ?_
     refine .sq fun K26 hK26 => ?_
     refine .q ?_ (by simp (disch := first|omega|(simp only[ln];omega)) [sds_len, List.length_map]; rfl)
     refine .block ?_
     
     refine .loop (fun N s => ∃ i : Nat, N = r.length - i ∧ i ≤ r.length ∧ (∀ j k, k < j → j < i → ¬ badS r j k) ∧ s.env 3 = .int .i64 (r.length : Int) ∧ s.env 8 = .isl ((sds r).map Sg.cells) ∧ s.env 54 = .isl ((sds r).map Sg.cells) ∧ s.env 55 = .int .i64 (r.length : Int) ∧ s.env 56 = .int .i64 (i : Int) ∧ s.nt = 103) (r.length) (by refine ⟨0, by omega, by omega, fun j k h h' => by omega, ?_, ?_, ?_, ?_, ?_, rfl⟩ <;> first|(simp (disch := omega) [g3];done)|omega|(simp;done)|(simp;omega)) ?_
     clear g1 g3 g38 g39 g40 Hr
     rintro N ⟨e, H, mm, nt⟩ ⟨i, rfl, hi, hok, g3, g8, g54, g55, g56, rfl⟩
     simp only [] at g3 g8 g54 g55 g56
     refine .q ?_ (by simp (disch := first|omega|(simp only[ln];omega)) [g55, g56]; rfl)
     refine .sq fun K29 hK29 => ?_
     refine .c (fun h57 => ?_) (fun h57 => ?_)
     ·try simp only[dc]at h57
      have hi' : i < r.length := by omega
      have hat := sds_at hi'
      have gi := sd_good (by omega) hG hD hi'
      refine .skip ?_
      refine hK29 _ ?_
      refine .sq fun K30 hK30 => ?_
      refine .block ?_
      refine .q ?_ (by simp (disch := first|omega|(simp only[ln];omega)) [if_pos, g54, g56, hat, sds_len, List.length_map]; rfl)
      refine .q ?_ (by simp (disch := first|omega|(simp only[ln];omega)) [if_pos, g8, hi, sds_len, List.length_take, Nat.min_eq_left, List.length_map]; rfl)
      refine .block ?_
      
      refine .loop (fun N s => ∃ k : Nat, ∃ id : Nat, N = i - k ∧ k ≤ i ∧ (∀ k', k' < k → ¬ badS r i k') ∧ s.env 3 = .int .i64 (r.length : Int) ∧ s.env 8 = .isl ((sds r).map Sg.cells) ∧ s.env 9 = .int .i64 (i : Int) ∧ s.env 10 = .ptr id 0 0 ∧ s.env 54 = .isl ((sds r).map Sg.cells) ∧ s.env 55 = .int .i64 (r.length : Int) ∧ s.env 56 = .int .i64 (i : Int) ∧ s.env 63 = .isl ((sds r).map Sg.cells |>.take i) ∧ s.env 64 = .int .i64 (i : Int) ∧ s.env 65 = .int .i64 (k : Int) ∧ s.heap id = some (4, [[.int .i64 (sd r i).a.x, .int .i64 (sd r i).a.y, .int .i64 (sd r i).b.x, .int .i64 (sd r i).b.y]]) ∧ id < s.nx ∧ s.nt = 103) (i) (by refine ⟨0, mm, by omega, by omega, fun j h => by omega, ?_, ?_, ?_, ?_, ?_, ?_, ?_, ?_, ?_, ?_, ?_, ?_, rfl⟩ <;> first|(simp (disch := omega) [g3, g8, g54, g55, g56];done)|omega|(simp;done)|(simp;omega)) ?_
      clear g3 g8 g54 g55 g56
      rintro N ⟨e, H, mm, nt⟩ ⟨k, id, rfl, hk, hk2, g3, g8, g9, g10, g54, g55, g56, g63, g64, g65, Hs, xs, rfl⟩
      simp only [] at g3 g8 g9 g10 g54 g55 g56 g63 g64 g65 Hs xs
      refine .q ?_ (by simp (disch := first|omega|(simp only[ln];omega)) [g64, g65]; rfl)
      refine .sq fun K34 hK34 => ?_
      refine .c (fun h66 => ?_) (fun h66 => ?_)
      ·try simp only[dc]at h66
       have hk' : k < i := by omega
       have hki : k < r.length := by omega
       have hatk := sds_at hki
       have gk := sd_good (by omega) hG hD hki
       have hmt := meetI_fc (sd r i) (sd r k) gi gk
       obtain ⟨M, hM⟩ : ∃ M, meetI (sd r i) (sd r k) = M := ⟨_, rfl⟩
       rw [hM] at hmt
       have hbd : badS r i k ↔ (M.1 = 2 ∨ (M.1 = 1 ∧ ¬ nxt r.length i k)) := by unfold badS mkd; rw [hM]
       refine .skip ?_
       refine hK34 _ ?_
       refine .sq fun K35 hK35 => ?_
       refine .block ?_
       refine .q ?_ (by simp (disch := first|omega|(simp only[ln];omega)) [if_pos, g63, g65, hk', hatk, sds_len, List.getElem?_take, List.length_take, List.length_map]; rfl)
       refine .sq fun K37 hK37 => ?_
       refine .region ?_
       refine .kf 2 hmt hb135 ?_ (by simp (disch := first|omega|(simp only[ln];omega)) [List.take_succ_cons, List.take_zero, g10, Hs]; rfl) (ha := by simp (disch := first|omega|(simp only[ln];omega)) [idf_Wd', g10, Hs])
       refine .e ?_ (by simp (disch := first|omega|(simp only[ln];omega)) [g10, Hs]; rfl)
       refine hK37 _ ?_
       refine .sq fun K38 hK38 => ?_
       have J38 : ∀ s : St, (∃ nb : Bool, (nb = true ↔ nxt r.length i k) ∧ s.env 3 = .int .i64 (r.length : Int) ∧ s.env 8 = .isl ((sds r).map Sg.cells) ∧ s.env 9 = .int .i64 (i : Int) ∧ s.env 10 = .ptr id 0 0 ∧ s.env 54 = .isl ((sds r).map Sg.cells) ∧ s.env 55 = .int .i64 (r.length : Int) ∧ s.env 56 = .int .i64 (i : Int) ∧ s.env 63 = .isl ((sds r).map Sg.cells |>.take i) ∧ s.env 64 = .int .i64 (i : Int) ∧ s.env 65 = .int .i64 (k : Int) ∧ s.env 11 = .int .i64 (k : Int) ∧ s.env 13 = .int .i64 (M.1 : Int) ∧ s.env 16 = .bool nb ∧ s.heap id = some (4, [[.int .i64 (sd r i).a.x, .int .i64 (sd r i).a.y, .int .i64 (sd r i).b.x, .int .i64 (sd r i).b.y]]) ∧ id < s.nx ∧ s.nt = 103) → K38 s := by
        clear g3 g8 g9 g10 g54 g55 g56 g63 g64 g65 Hs xs
        rintro ⟨e, H, mm, nt⟩ ⟨nb, hnb, g3, g8, g9, g10, g54, g55, g56, g63, g64, g65, g11, g13, g16, Hs, xs, rfl⟩
        simp only [] at g3 g8 g9 g10 g54 g55 g56 g63 g64 g65 g11 g13 g16 Hs xs
        refine hK38 _ ?_
        refine .sq fun K39 hK39 => ?_
        by_cases m2 : M.1 = 2
        ·have d2 : (M.1 == 2) = true := by simp [m2]
         refine .r ?_ (by simp (disch := first|omega|(simp only[ln];omega)) [g13, g16, d2]; rfl)
         refine hK39 _ ?_
         refine .c (fun h100 => ?_) (fun h100 => ?_)
         ·try simp only[dc]at h100
          have hbad : badS r i k := hbd.2 (.inl m2)
          refine .q ?_
          refine .ret ?_
          exact hK _ _ _ _ trivial ((Fin.m).cast (by rw [rgF_cross h3 h12 hG hD ⟨i, k, hk', hi', hbad⟩]))
         ·simp at h100
        ·have d2 : (M.1 == 2) = false := by simp [m2]
         by_cases m1 : M.1 = 1
         ·have d1 : (M.1 == 1) = true := by simp [m1]
          refine .r ?_ (by simp (disch := first|omega|(simp only[ln];omega)) [g13, g16, d2, d1]; rfl)
          refine hK39 _ ?_
          refine .c (t := !nb) (fun h100 => ?_) (fun h100 => ?_)
          ·try simp only[dc]at h100
           have hf : nb = false := by simpa using h100
           have hbad : badS r i k := hbd.2 (.inr ⟨m1, fun h => by rw [hnb.2 h] at hf; simp at hf⟩)
           refine .q ?_
           refine .ret ?_
           exact hK _ _ _ _ trivial ((Fin.m).cast (by rw [rgF_cross h3 h12 hG hD ⟨i, k, hk', hi', hbad⟩]))
          ·try simp only[dc]at h100
           have hf : nb = true := by simpa using h100
           have hnbad : ¬ badS r i k := fun h => by rcases hbd.1 h with h | h; exact m2 h; exact h.2 (hnb.1 hf)
           refine .skip ?_
           refine hK35 _ ?_
           refine .r ?_ (by simp (disch := first|omega|(simp only[ln];omega)) [g65]; rfl)
           refine ⟨i - (k + 1), by omega, k + 1, id, rfl, by omega, fun j h => by rcases Nat.lt_succ_iff_lt_or_eq.1 h with h | h; exact hk2 j h; rw [h]; exact hnbad, ?_, ?_, ?_, ?_, ?_, ?_, ?_, ?_, ?_, ?_, ?_, ?_, rfl⟩ <;> first|(simp (disch := omega) [g3, g8, g9, g10, g54, g55, g56, g63, g64, g65, Hs];done)|omega|(simp;done)|(simp;omega)
         ·have d1 : (M.1 == 1) = false := by simp [m1]
          refine .r ?_ (by simp (disch := first|omega|(simp only[ln];omega)) [g13, g16, d2, d1]; rfl)
          refine hK39 _ ?_
          refine .c (fun h100 => ?_) (fun h100 => ?_)
          ·simp at h100
          ·try simp only[dc]at h100
           have hnbad : ¬ badS r i k := fun h => by rcases hbd.1 h with h | h; exact m2 h; exact m1 h.1
           refine .skip ?_
           refine hK35 _ ?_
           refine .r ?_ (by simp (disch := first|omega|(simp only[ln];omega)) [g65]; rfl)
           refine ⟨i - (k + 1), by omega, k + 1, id, rfl, by omega, fun j h => by rcases Nat.lt_succ_iff_lt_or_eq.1 h with h | h; exact hk2 j h; rw [h]; exact hnbad, ?_, ?_, ?_, ?_, ?_, ?_, ?_, ?_, ?_, ?_, ?_, ?_, rfl⟩ <;> first|(simp (disch := omega) [g3, g8, g9, g10, g54, g55, g56, g63, g64, g65, Hs];done)|omega|(simp;done)|(simp;omega)
       by_cases q1 : (k : Int) = (i : Int) - 1
       ·have c1 : ((k : Int) == (i : Int) - 1) = true := by simp [q1]
        refine .r ?_ (by simp (disch := first|omega|(simp only[ln];omega)) [g3, g8, g9, g10, g54, g55, g56, g63, g64, g65, Hs, c1]; rfl)
        refine J38 _ ?_
        refine ⟨true, ⟨fun _ => .inl (by omega), fun _ => rfl⟩, ?_, ?_, ?_, ?_, ?_, ?_, ?_, ?_, ?_, ?_, ?_, ?_, ?_, ?_, ?_, rfl⟩ <;> first|(simp (disch := omega) [g3, g8, g9, g10, g54, g55, g56, g63, g64, g65, Hs];done)|omega|(simp;done)|(simp;omega)
       ·have c1 : ((k : Int) == (i : Int) - 1) = false := by simp [q1]
        by_cases q2 : k = 0
        ·have c2 : ((k : Int) == 0) = true := by simp [q2]
         have c2' : (k == 0) = true := by simp [q2]
         by_cases q3 : (i : Int) = (r.length : Int) - 1
         ·have c3 : ((i : Int) == (r.length : Int) - 1) = true := by simp [q3]
          refine .r ?_ (by simp (disch := first|omega|(simp only[ln];omega)) [g3, g8, g9, g10, g54, g55, g56, g63, g64, g65, Hs, c1, c2, c2', c3]; rfl)
          refine J38 _ ?_
          refine ⟨true, ⟨fun _ => .inr ⟨by omega, by omega⟩, fun _ => rfl⟩, ?_, ?_, ?_, ?_, ?_, ?_, ?_, ?_, ?_, ?_, ?_, ?_, ?_, ?_, ?_, rfl⟩ <;> first|(simp (disch := omega) [g3, g8, g9, g10, g54, g55, g56, g63, g64, g65, Hs];done)|omega|(simp;done)|(simp;omega)
         ·have c3 : ((i : Int) == (r.length : Int) - 1) = false := by simp [q3]
          refine .r ?_ (by simp (disch := first|omega|(simp only[ln];omega)) [g3, g8, g9, g10, g54, g55, g56, g63, g64, g65, Hs, c1, c2, c2', c3]; rfl)
          refine J38 _ ?_
          refine ⟨false, ⟨fun h => by simp at h, fun h => by rcases h with h | ⟨h, h'⟩ <;> omega⟩, ?_, ?_, ?_, ?_, ?_, ?_, ?_, ?_, ?_, ?_, ?_, ?_, ?_, ?_, ?_, rfl⟩ <;> first|(simp (disch := omega) [g3, g8, g9, g10, g54, g55, g56, g63, g64, g65, Hs];done)|omega|(simp;done)|(simp;omega)
        ·have c2 : ((k : Int) == 0) = false := by simp; omega
         have c2' : (k == 0) = false := by simp; omega
         refine .r ?_ (by simp (disch := first|omega|(simp only[ln];omega)) [g3, g8, g9, g10, g54, g55, g56, g63, g64, g65, Hs, c1, c2, c2']; rfl)
         refine J38 _ ?_
         refine ⟨false, ⟨fun h => by simp at h, fun h => by rcases h with h | ⟨h, h'⟩ <;> omega⟩, ?_, ?_, ?_, ?_, ?_, ?_, ?_, ?_, ?_, ?_, ?_, ?_, ?_, ?_, ?_, rfl⟩ <;> first|(simp (disch := omega) [g3, g8, g9, g10, g54, g55, g56, g63, g64, g65, Hs];done)|omega|(simp;done)|(simp;omega)
      ·try simp only[dc]at h66
       have hn1 : ∀ k', k' < i → ¬ badS r i k' := fun k' h => hk2 k' (by omega)
       refine .exit ?_
       refine hK30 _ ?_
       refine .r ?_ (by simp (disch := first|omega|(simp only[ln];omega)) [g56]; rfl)
       refine ⟨r.length - (i + 1), by omega, i + 1, rfl, by omega, fun j k h h' => by rcases Nat.lt_succ_iff_lt_or_eq.1 h' with h' | h'; exact hok j k h h'; rw [h']; exact hn1 k (by omega), ?_, ?_, ?_, ?_, ?_, rfl⟩ <;> first|(simp (disch := omega) [g3, g8, g54, g55, g56];done)|omega|(simp;done)|(simp;omega)
     ·try simp only[dc]at h57
      have hX : ¬ rgX r := by rintro ⟨j, k, q1, q2, q3⟩; exact hok j k q1 (by omega) q3
      refine .exit ?_
      refine hK26 _ ?_
      refine .q ?_
      refine .ret ?_
      exact hK _ _ _ _ trivial ((Fin.m).cast (by rw [rgF_ok h3 h12 hG hD hX]))
theorem isRing_fc (r : List Sp) (hl : r.length ≤ 1099511627776) : FC Tryz.prog 37 [.agg [.isl (r.map Sp.cells)]] (.bool (decide (rgF r = 0))) := by
 refine .b Tryz.func37 6 (fun nx K hK => ?_) (hi := by simp [idfL, idf, idfLL_iff, Sp.av, Sp.cells, Sg.av, Sg.cells])
 refine .q ?_
 refine .sq fun K2 hK2 => ?_
 refine .region ?_
 refine .kf 1 (ringFaultI_fc r hl) hb83 ?_
 refine .e ?_
 refine hK2 _ ?_
 refine .ret ?_
 exact hK _ _ _ _ trivial ((Fin.m).cast (by rw [beqdI]))
set_option maxHeartbeats 2000000 in
theorem ringsMeetI_fc (a b : List Sp) (za : rgF a = 0) (zb : rgF b = 0) : FC Tryz.prog 157 [.agg [.isl (a.map Sp.cells)], .agg [.isl (b.map Sp.cells)]] (.bool (rgsM a b)) := by
 obtain ⟨a1, a2, a3, a4, _⟩ := rgF_zero za
 obtain ⟨b1, b2, b3, b4, _⟩ := rgF_zero zb
 refine .b Tryz.func157 37 (fun nx K hK => ?_) (hi := by simp [idfL, idf, idfLL_iff, Sp.av, Sp.cells, Sg.av, Sg.cells])
 refine .q ?_
 refine .sq fun K2 hK2 => ?_
 refine .sq fun K3 hK3 => ?_
 refine .region ?_
 refine .kf 1 (sides_fc a (by omega)) hb134 ?_ (by simp (disch := first|omega|(simp only[ln];omega)) [List.take_succ_cons, List.take_zero, sds_len, List.length_map]; rfl) (ha := by simp (disch := first|omega|(simp only[ln];omega)) [idf_Wd', sds_len, List.length_map])
 refine .e ?_ (by simp (disch := first|omega|(simp only[ln];omega)) [sds_len, List.length_map]; rfl)
 refine hK3 _ ?_
 refine .block ?_
 
 refine .loop (fun N s => ∃ i : Nat, N = a.length - i ∧ i ≤ a.length ∧ (∀ i' k, i' < i → k < b.length → (meetI (sd a i') (sd b k)).1 = 0) ∧ s.env 3 = .ptr (nx + 1) 0 0 ∧ s.env 13 = .isl ((sds a).map Sg.cells) ∧ s.env 14 = .int .i64 (a.length : Int) ∧ s.env 15 = .int .i64 (i : Int) ∧ s.heap (nx + 1) = some (1, [[.isl (b.map Sp.cells)]]) ∧ (nx + 1) < s.nx ∧ s.nt = 37) (a.length) (by refine ⟨0, by omega, by omega, fun j k h _ => by omega, ?_, ?_, ?_, ?_, ?_, ?_, rfl⟩ <;> first|(simp (disch := omega) [sds_len];done)|omega|(simp;done)|(simp;omega)) ?_
 rintro N ⟨e, H, mm, nt⟩ ⟨i, rfl, hi, hno, g3, g13, g14, g15, Hb, xb, rfl⟩
 simp only [] at g3 g13 g14 g15 Hb xb
 refine .q ?_ (by simp (disch := first|omega|(simp only[ln];omega)) [g14, g15]; rfl)
 refine .sq fun K5 hK5 => ?_
 refine .c (fun h16 => ?_) (fun h16 => ?_)
 ·try simp only[dc]at h16
  have hi' : i < a.length := by omega
  have hat := sds_at hi'
  have gi := sd_good (by omega) a3 a4 hi'
  refine .skip ?_
  refine hK5 _ ?_
  refine .sq fun K6 hK6 => ?_
  refine .block ?_
  refine .q ?_ (by simp (disch := first|omega|(simp only[ln];omega)) [if_pos, g13, g15, hat, sds_len, List.length_map]; rfl)
  refine .sq fun K8 hK8 => ?_
  refine .region ?_
  refine .kf 1 (sides_fc b (by omega)) hb134 ?_ (by simp (disch := first|omega|(simp only[ln];omega)) [List.take_succ_cons, List.take_zero, g3, Hb, sds_len, List.length_map]; rfl) (ha := by simp (disch := first|omega|(simp only[ln];omega)) [idf_Wd', g3, Hb, sds_len, List.length_map])
  refine .e ?_ (by simp (disch := first|omega|(simp only[ln];omega)) [g3, Hb, sds_len, List.length_map]; rfl)
  refine hK8 _ ?_
  refine .block ?_
  
  refine .loop (fun N s => ∃ k : Nat, ∃ id : Nat, N = b.length - k ∧ k ≤ b.length ∧ (nx + 1 < id) ∧ (∀ k', k' < k → (meetI (sd a i) (sd b k')).1 = 0) ∧ s.env 3 = .ptr (nx + 1) 0 0 ∧ s.env 6 = .ptr id 0 0 ∧ s.env 13 = .isl ((sds a).map Sg.cells) ∧ s.env 14 = .int .i64 (a.length : Int) ∧ s.env 15 = .int .i64 (i : Int) ∧ s.env 20 = .isl ((sds b).map Sg.cells) ∧ s.env 21 = .int .i64 (b.length : Int) ∧ s.env 22 = .int .i64 (k : Int) ∧ s.heap (nx + 1) = some (1, [[.isl (b.map Sp.cells)]]) ∧ (nx + 1) < s.nx ∧ s.heap id = some (4, [[.int .i64 (sd a i).a.x, .int .i64 (sd a i).a.y, .int .i64 (sd a i).b.x, .int .i64 (sd a i).b.y]]) ∧ id < s.nx ∧ s.nt = 37) (b.length) (by refine ⟨0, mm, by omega, by omega, by omega, fun j h => by omega, ?_, ?_, ?_, ?_, ?_, ?_, ?_, ?_, ?_, ?_, ?_, ?_, rfl⟩ <;> first|(simp (disch := omega) [g3, g13, g14, g15, Hb, sds_len];done)|omega|(simp;done)|(simp;omega)) ?_
  clear g3 g13 g14 g15 Hb
  rintro N ⟨e, H, mm, nt⟩ ⟨k, id, rfl, hk, hidb, hk2, g3, g6, g13, g14, g15, g20, g21, g22, Hb, xb, Hs, xs, rfl⟩
  simp only [] at g3 g6 g13 g14 g15 g20 g21 g22 Hb xb Hs xs
  refine .q ?_ (by simp (disch := first|omega|(simp only[ln];omega)) [g21, g22]; rfl)
  refine .sq fun K10 hK10 => ?_
  refine .c (fun h23 => ?_) (fun h23 => ?_)
  ·try simp only[dc]at h23
   have hk' : k < b.length := by omega
   have hatk := sds_at hk'
   have gk := sd_good (by omega) b3 b4 hk'
   have hmt := meetI_fc (sd a i) (sd b k) gi gk
   obtain ⟨M, hM⟩ : ∃ M, meetI (sd a i) (sd b k) = M := ⟨_, rfl⟩
   rw [hM] at hmt
   refine .skip ?_
   refine hK10 _ ?_
   refine .sq fun K11 hK11 => ?_
   refine .block ?_
   refine .q ?_ (by simp (disch := first|omega|(simp only[ln];omega)) [if_pos, g20, g22, hatk, sds_len, List.length_map]; rfl)
   refine .sq fun K13 hK13 => ?_
   refine .region ?_
   refine .kf 2 hmt hb135 ?_ (by simp (disch := first|omega|(simp only[ln];omega)) [List.take_succ_cons, List.take_zero, g6, Hs]; rfl) (ha := by simp (disch := first|omega|(simp only[ln];omega)) [idf_Wd', g6, Hs])
   refine .e ?_ (by simp (disch := first|omega|(simp only[ln];omega)) [g6, Hs]; rfl)
   refine hK13 _ ?_
   refine .q ?_
   refine .c (t := M.1 != 0) (fun h34 => ?_) (fun h34 => ?_) (by simp (disch := first|omega|(simp only[ln];omega)) [bne])
   ·try simp only[dc]at h34
    have hm1 : M.1 ≠ 0 := by simpa using h34
    have hr : rgsM a b = true := rgsM_yes ⟨i, k, hi', hk', by rw [hM]; exact hm1⟩
    refine .q ?_
    refine .ret ?_
    exact hK _ _ _ _ trivial ((Fin.m).cast (by rw [hr]))
   ·try simp only[dc]at h34
    have hm0 : (meetI (sd a i) (sd b k)).1 = 0 := by rw [hM]; simpa using h34
    refine .skip ?_
    refine hK11 _ ?_
    refine .r ?_ (by simp (disch := first|omega|(simp only[ln];omega)) [g22]; rfl)
    refine ⟨b.length - (k + 1), by omega, k + 1, id, rfl, by omega, hidb, fun j h => by rcases Nat.lt_succ_iff_lt_or_eq.1 h with h | h; exact hk2 j h; rw [h]; exact hm0, ?_, ?_, ?_, ?_, ?_, ?_, ?_, ?_, ?_, ?_, ?_, ?_, rfl⟩ <;> first|(simp (disch := omega) [g3, g6, g13, g14, g15, g20, g21, g22, Hb, Hs];done)|omega|(simp;done)|(simp;omega)
  ·try simp only[dc]at h23
   have hn1 : ∀ k, k < b.length → (meetI (sd a i) (sd b k)).1 = 0 := fun k' h => hk2 k' (by omega)
   refine .exit ?_
   refine hK6 _ ?_
   refine .r ?_ (by simp (disch := first|omega|(simp only[ln];omega)) [g15]; rfl)
   refine ⟨a.length - (i + 1), by omega, i + 1, rfl, by omega, fun j k h h' => by rcases Nat.lt_succ_iff_lt_or_eq.1 h with h | h; exact hno j k h h'; rw [h]; exact hn1 k h', ?_, ?_, ?_, ?_, ?_, ?_, rfl⟩ <;> first|(simp (disch := omega) [g3, g13, g14, g15, Hb];done)|omega|(simp;done)|(simp;omega)
 ·try simp only[dc]at h16
  have hr : rgsM a b = false := rgsM_no (by rintro ⟨j, k, q1, q2, q3⟩; exact q3 (hno j k (by omega) q2))
  refine .exit ?_
  refine hK2 _ ?_
  refine .q ?_
  refine .ret ?_
  exact hK _ _ _ _ trivial ((Fin.m).cast (by rw [hr]))
end

end Go.Proofs.YtdcajfgeleopiaaGreat

/- Walks: rings, by the reference. -/
namespace Go.Proofs.YtdcajfgeleopiaaGreat
open Go Go.RowKit
set_option linter.unusedSimpArgs false
set_option linter.unusedVariables false
set_option maxRecDepth 100000
attribute [local simp] szT2 byT2 agT2 unT2 zoT2 szT3 byT3 agT3 unT3 zoT3 szT32 byT32 agT32 elT32 unT32 zoT32 szT34 byT34 agT34 flT34 fdT34_0 zoT34 szT53 byT53 agT53 flT53 fdT53_0 fdT53_1 zoT53 szT55 byT55 agT55 flT55 fdT55_0 fdT55_1 zoT55 szT73 byT73 agT73 flT73 fdT73_0 fdT73_1 zoT73 szT75 byT75 agT75 flT75 fdT75_0 fdT75_1 fdT75_2 zoT75

theorem l4V_k {u v : Sg} (gu : u.good = true) (gv : v.good = true) : ∃ (b1 b2 b3 c1 c2 c3 : Bool) (s1 s2 s3 t1 t2 t3 : AV), l4V u v = .tup [.int .i64 (meetI u v).1, .agg [.bool b1, s1, .bool b2, s2, .bool b3, s3], .agg [.bool c1, t1, .bool c2, t2, .bool c3, t3]] ∧ avOne s1 = true ∧ avOne s2 = true ∧ avOne s3 = true ∧ avOne t1 = true ∧ avOne t2 = true ∧ avOne t3 = true := by
  have e := meet_eq gu gv
  rw [e]
  unfold l4V meetS linP z3 l3A l3C
  have ow : ∀ x, avOne (Wd .u32 (dg x)) = true := fun x => rfl
  have on : avOne .nsl = true := rfl
  by_cases h0 : crs u.a u.b v.a = 0 ∧ crs u.a u.b v.b = 0
  · rw [if_pos h0, if_pos h0]
    by_cases h1 : lsS (highS u v) (lowS u v) = true
    · rw [if_pos h1, if_pos h1]; exact ⟨_, _, _, _, _, _, _, _, _, _, _, _, rfl, on, on, on, on, on, on⟩
    · rw [if_neg h1, if_neg h1]
      by_cases h2 : lowS u v = highS u v
      · rw [if_pos h2, if_pos h2]; exact ⟨_, _, _, _, _, _, _, _, _, _, _, _, rfl, ow _, ow _, ow _, on, on, on⟩
      · rw [if_neg h2, if_neg h2]; exact ⟨_, _, _, _, _, _, _, _, _, _, _, _, rfl, ow _, ow _, ow _, ow _, ow _, ow _⟩
  · rw [if_neg h0, if_neg h0]
    by_cases h1 : noWay u v = true
    · rw [if_pos h1, if_pos h1]; exact ⟨_, _, _, _, _, _, _, _, _, _, _, _, rfl, on, on, on, on, on, on⟩
    · rw [if_neg h1, if_neg h1]; exact ⟨_, _, _, _, _, _, _, _, _, _, _, _, rfl, ow _, ow _, ow _, on, on, on⟩

section
attribute [local simp] Sp.av Sp.cells Sg.av Sg.cells
set_option maxHeartbeats 1000000 in
theorem l5Side_fc (r : List Sp) (i : Nat) (hi' : i < r.length) (hl : r.length ≤ 1099511627776) : FC Tryz.prog 78 [.agg [.isl (r.map Sp.cells)], .int .i64 (i : Int)] (.agg [.int .i64 (sd r i).a.x, .int .i64 (sd r i).a.y, .int .i64 (sd r i).b.x, .int .i64 (sd r i).b.y]) := by
 have hat := rg_at hi'
 obtain ⟨j, hj⟩ : ∃ j : Nat, j = (i + 1) % r.length := ⟨_, rfl⟩
 have hjl : j < r.length := by rw [hj]; exact nx1_lt hi'
 have htm : Int.tmod ((i : Int) + 1) (r.length : Int) = (j : Int) := by rw [hj]; exact ite_tmod hi'
 have hat2 := rg_at hjl
 have hnj : gs r j = nx1 r i := by rw [hj]; rfl
 have hne : ¬ r = [] := by intro h; rw [h] at hi'; simp at hi'
 have hsd : sd r i = segO (gs r i) (gs r j) := by rw [hnj]; rfl
 refine .b Tryz.func78 31 (fun nx K hK => ?_) (hi := by simp [idfL, idf, idfLL_iff, Sp.av, Sp.cells, Sg.av, Sg.cells])
 refine .q ?_
 refine .q ?_ (by simp (disch := first|omega|(simp only[ln];omega)) [if_pos, hat, List.length_map]; rfl)
 refine .sq fun K3 hK3 => ?_
 refine .df 11 ?_ (by simp (disch := first|omega|(simp only[ln];omega)) [runDf.eq_def, runF1, runF2, stepF.eq_def, updo.eq_def, hupo.eq_def, opSto1.eq_def, if_pos, hat2, htm, hne, List.length_map]; rfl)
 refine hK3 _ ?_
 refine .sq fun K4 hK4 => ?_
 refine .sq fun K5 hK5 => ?_
 refine .region ?_
 refine .kf 2 (l4Less_fc (gs r j) (gs r i)) hb128 ?_
 refine .nil ?_
 refine hK5 _ ?_
 refine .c (t := lsS (gs r j) (gs r i)) (fun h24 => ?_) (fun h24 => ?_)
 ·try simp only[dc]at h24
  refine .q ?_
  refine .ret ?_
  exact hK _ _ _ _ trivial ((Fin.mk (by simp (disch := omega) [aRes, aResL, aRes1]; rfl)).cast (by rw [hsd]; unfold segO; rw [if_pos h24]))
 ·try simp only[dc]at h24
  refine .skip ?_
  refine hK4 _ ?_
  refine .q ?_
  refine .ret ?_
  exact hK _ _ _ _ trivial ((Fin.mk (by simp (disch := omega) [aRes, aResL, aRes1]; rfl)).cast (by rw [hsd]; unfold segO; rw [h24]; rfl))
set_option maxHeartbeats 4000000 in
theorem ringFaultS_fc (r : List Sp) (hl : r.length ≤ 1099511627776) : FC Tryz.prog 72 [.agg [.isl (r.map Sp.cells)]] (.int .i64 (rgF r : Int)) := by
 refine .b Tryz.func72 101 (fun nx K hK => ?_) (hi := by simp [idfL, idf, idfLL_iff, Sp.av, Sp.cells, Sg.av, Sg.cells])
 refine .q ?_
 refine .q ?_ (by simp (disch := first|omega|(simp only[ln];omega)) [List.length_map]; rfl)
 refine .sq fun K3 hK3 => ?_
 refine .q ?_
 refine .c (t := decide ((r.length : Int) < 3)) (fun h17 => ?_) (fun h17 => ?_)
 ·try simp only[dc]at h17
  refine .q ?_
  refine .ret ?_
  exact hK _ _ _ _ trivial ((Fin.m).cast (by rw [rgF_few (by omega)]))
 ·try simp only[dc]at h17
  refine .skip ?_
  refine hK3 _ ?_
  refine .sq fun K6 hK6 => ?_
  refine .q ?_
  refine .c (t := decide (12 < (r.length : Int))) (fun h19 => ?_) (fun h19 => ?_)
  ·try simp only[dc]at h19
   refine .q ?_
   refine .ret ?_
   exact hK _ _ _ _ trivial ((Fin.m).cast (by rw [rgF_many (by omega)]))
  ·try simp only[dc]at h19
   have h3 : ¬ r.length < 3 := by omega
   have h12 : ¬ 12 < r.length := by omega
   refine .skip ?_
   refine hK6 _ ?_
   refine .sq fun K9 hK9 => ?_
   refine .q ?_
   refine .block ?_
   
   refine .loop (fun N s => ∃ i : Nat, N = r.length - i ∧ i ≤ r.length ∧ (∀ j, j < i → (gs r j).good = true) ∧ s.env 1 = .ptr nx 0 0 ∧ s.env 3 = .int .i64 (r.length : Int) ∧ s.env 4 = .int .i64 (i : Int) ∧ s.heap nx = some (1, [[.isl (r.map Sp.cells)]]) ∧ nx < s.nx ∧ s.nt = 101) (r.length) (by refine ⟨0, by omega, by omega, fun j h => by omega, ?_, ?_, ?_, ?_, ?_, rfl⟩ <;> first|(simp (disch := omega);done)|omega|(simp;done)|(simp;omega)) ?_
   rintro N ⟨e, H, mm, nt⟩ ⟨i, rfl, hi, hgd, g1, g3, g4, Hr, xr, rfl⟩
   simp only [] at g1 g3 g4 Hr xr
   refine .sq fun K11 hK11 => ?_
   refine .q ?_ (by simp (disch := first|omega|(simp only[ln];omega)) [g3, g4]; rfl)
   refine .c (fun h22 => ?_) (fun h22 => ?_)
   ·try simp only[dc]at h22
    have hi' : i < r.length := by omega
    have hat := rg_at hi'
    refine .skip ?_
    refine hK11 _ ?_
    refine .sq fun K13 hK13 => ?_
    refine .block ?_
    refine .sq fun K14 hK14 => ?_
    refine .region ?_
    refine .kf 5 (spotOkS_fc (gs r i)) hb122 ?_ (by simp (disch := first|omega|(simp only[ln];omega)) [List.take_succ_cons, List.take_zero, if_pos, g1, g4, Hr, hat, List.length_map]; rfl) (ha := by simp (disch := first|omega|(simp only[ln];omega)) [idf_Wd', if_pos, g1, g4, Hr, hat, List.length_map])
    refine .e ?_ (by simp (disch := first|omega|(simp only[ln];omega)) [if_pos, g1, g4, Hr, hat, List.length_map]; rfl)
    refine hK14 _ ?_
    refine .c (t := !(gs r i).good) (fun h31 => ?_) (fun h31 => ?_)
    ·try simp only[dc]at h31
     have hb : ¬ (gs r i).good = true := by simpa using h31
     refine .q ?_
     refine .ret ?_
     exact hK _ _ _ _ trivial ((Fin.m).cast (by rw [rgF_coord h3 h12 (gs_mem hi') hb]))
    ·try simp only[dc]at h31
     have hg1 : (gs r i).good = true := by simpa using h31
     refine .skip ?_
     refine hK13 _ ?_
     refine .r ?_ (by simp (disch := first|omega|(simp only[ln];omega)) [g4]; rfl)
     refine ⟨r.length - (i + 1), by omega, i + 1, rfl, by omega, fun j h => by rcases Nat.lt_succ_iff_lt_or_eq.1 h with h | h; exact hgd j h; rw [h]; exact hg1, ?_, ?_, ?_, ?_, ?_, rfl⟩ <;> first|(simp (disch := omega) [g1, g3, g4, Hr];done)|omega|(simp;done)|(simp;omega)
   ·try simp only[dc]at h22
    have hG : spsGood r := spsGood_of (by omega) hgd
    clear hgd
    refine .exit ?_
    refine hK9 _ ?_
    refine .sq fun K16 hK16 => ?_
    refine .q ?_
    refine .block ?_
    
    refine .loop (fun N s => ∃ i : Nat, N = r.length - i ∧ i ≤ r.length ∧ (∀ j k, k < j → j < i → gs r j ≠ gs r k) ∧ s.env 1 = .ptr nx 0 0 ∧ s.env 3 = .int .i64 (r.length : Int) ∧ s.env 5 = .int .i64 (i : Int) ∧ s.heap nx = some (1, [[.isl (r.map Sp.cells)]]) ∧ nx < s.nx ∧ s.nt = 101) (r.length) (by refine ⟨0, by omega, by omega, fun j k h h' => by omega, ?_, ?_, ?_, ?_, ?_, rfl⟩ <;> first|(simp (disch := omega) [g1, g3, Hr];done)|omega|(simp;done)|(simp;omega)) ?_
    clear g1 g3 g4 Hr
    rintro N ⟨e, H, mm, nt⟩ ⟨i, rfl, hi, hnd, g1, g3, g5, Hr, xr, rfl⟩
    simp only [] at g1 g3 g5 Hr xr
    refine .sq fun K18 hK18 => ?_
    refine .q ?_ (by simp (disch := first|omega|(simp only[ln];omega)) [g3, g5]; rfl)
    refine .c (fun h34 => ?_) (fun h34 => ?_)
    ·try simp only[dc]at h34
     have hi' : i < r.length := by omega
     have hat := rg_at hi'
     refine .skip ?_
     refine hK18 _ ?_
     refine .sq fun K20 hK20 => ?_
     refine .block ?_
     refine .q ?_
     refine .block ?_
     
     refine .loop (fun N s => ∃ k : Nat, N = i - k ∧ k ≤ i ∧ (∀ k', k' < k → gs r i ≠ gs r k') ∧ s.env 1 = .ptr nx 0 0 ∧ s.env 3 = .int .i64 (r.length : Int) ∧ s.env 5 = .int .i64 (i : Int) ∧ s.env 6 = .int .i64 (k : Int) ∧ s.heap nx = some (1, [[.isl (r.map Sp.cells)]]) ∧ nx < s.nx ∧ s.nt = 101) (i) (by refine ⟨0, by omega, by omega, fun j h => by omega, ?_, ?_, ?_, ?_, ?_, ?_, rfl⟩ <;> first|(simp (disch := omega) [g1, g3, g5, Hr];done)|omega|(simp;done)|(simp;omega)) ?_
     clear g1 g3 g5 Hr
     rintro N ⟨e, H, mm, nt⟩ ⟨k, rfl, hk, hk2, g1, g3, g5, g6, Hr, xr, rfl⟩
     simp only [] at g1 g3 g5 g6 Hr xr
     refine .sq fun K22 hK22 => ?_
     refine .q ?_ (by simp (disch := first|omega|(simp only[ln];omega)) [g5, g6]; rfl)
     refine .c (fun h39 => ?_) (fun h39 => ?_)
     ·try simp only[dc]at h39
      have hk' : k < i := by omega
      have hatk := rg_at (show k < r.length by omega)
      refine .skip ?_
      refine hK22 _ ?_
      refine .sq fun K24 hK24 => ?_
      refine .block ?_
      refine .sq fun K25 hK25 => ?_
      refine .df 11 ?_ (by simp (disch := first|omega|(simp only[ln];omega)) [runDf.eq_def, runF1, runF2, stepF.eq_def, updo.eq_def, hupo.eq_def, opSto1.eq_def, if_pos, g1, g5, g6, Hr, hat, hatk, eqW2, List.length_map]; rfl)
      refine hK25 _ ?_
      refine .c (t := decide (gs r i = gs r k)) (fun h52 => ?_) (fun h52 => ?_)
      ·try simp only[dc]at h52
       refine .q ?_
       refine .ret ?_
       exact hK _ _ _ _ trivial ((Fin.m).cast (by rw [rgF_twice h3 h12 hG ⟨i, k, hk', hi', h52⟩]))
      ·try simp only[dc]at h52
       have hne1 := h52
       refine .skip ?_
       refine hK24 _ ?_
       refine .r ?_ (by simp (disch := first|omega|(simp only[ln];omega)) [g6]; rfl)
       refine ⟨i - (k + 1), by omega, k + 1, rfl, by omega, fun j h => by rcases Nat.lt_succ_iff_lt_or_eq.1 h with h | h; exact hk2 j h; rw [h]; exact hne1, ?_, ?_, ?_, ?_, ?_, ?_, rfl⟩ <;> first|(simp (disch := omega) [g1, g3, g5, g6, Hr];done)|omega|(simp;done)|(simp;omega)
     ·try simp only[dc]at h39
      have hn1 : ∀ k', k' < i → gs r i ≠ gs r k' := fun k' h => hk2 k' (by omega)
      refine .exit ?_
      refine hK20 _ ?_
      refine .r ?_ (by simp (disch := first|omega|(simp only[ln];omega)) [g5]; rfl)
      refine ⟨r.length - (i + 1), by omega, i + 1, rfl, by omega, fun j k h h' => by rcases Nat.lt_succ_iff_lt_or_eq.1 h' with h' | h'; exact hnd j k h h'; rw [h']; exact hn1 k (by omega), ?_, ?_, ?_, ?_, ?_, rfl⟩ <;> first|(simp (disch := omega) [g1, g3, g5, Hr];done)|omega|(simp;done)|(simp;omega)
    ·try simp only[dc]at h34
     have hD : ¬ rgDup r := by rintro ⟨j, k, q1, q2, q3⟩; exact hnd j k q1 (by omega) q3
     clear hnd
     refine .exit ?_
     refine hK16 _ ?_
     refine .sq fun K27 hK27 => ?_
     refine .q ?_
     refine .block ?_
     
     refine .loop (fun N s => ∃ i : Nat, N = r.length - i ∧ i ≤ r.length ∧ (∀ j k, k < j → j < i → ¬ badS r j k) ∧ s.env 1 = .ptr nx 0 0 ∧ s.env 3 = .int .i64 (r.length : Int) ∧ s.env 7 = .int .i64 (i : Int) ∧ s.heap nx = some (1, [[.isl (r.map Sp.cells)]]) ∧ nx < s.nx ∧ s.nt = 101) (r.length) (by refine ⟨0, by omega, by omega, fun j k h h' => by omega, ?_, ?_, ?_, ?_, ?_, rfl⟩ <;> first|(simp (disch := omega) [g1, g3, Hr];done)|omega|(simp;done)|(simp;omega)) ?_
     clear g1 g3 g5 Hr
     rintro N ⟨e, H, mm, nt⟩ ⟨i, rfl, hi, hok, g1, g3, g7, Hr, xr, rfl⟩
     simp only [] at g1 g3 g7 Hr xr
     refine .sq fun K29 hK29 => ?_
     refine .q ?_ (by simp (disch := first|omega|(simp only[ln];omega)) [g3, g7]; rfl)
     refine .c (fun h55 => ?_) (fun h55 => ?_)
     ·try simp only[dc]at h55
      have hi' : i < r.length := by omega
      have gi := sd_good (by omega) hG hD hi'
      refine .skip ?_
      refine hK29 _ ?_
      refine .sq fun K31 hK31 => ?_
      refine .block ?_
      refine .q ?_
      refine .block ?_
      
      refine .loop (fun N s => ∃ k : Nat, N = i - k ∧ k ≤ i ∧ (∀ k', k' < k → ¬ badS r i k') ∧ s.env 1 = .ptr nx 0 0 ∧ s.env 3 = .int .i64 (r.length : Int) ∧ s.env 7 = .int .i64 (i : Int) ∧ s.env 8 = .int .i64 (k : Int) ∧ s.heap nx = some (1, [[.isl (r.map Sp.cells)]]) ∧ nx < s.nx ∧ s.nt = 101) (i) (by refine ⟨0, by omega, by omega, fun j h => by omega, ?_, ?_, ?_, ?_, ?_, ?_, rfl⟩ <;> first|(simp (disch := omega) [g1, g3, g7, Hr];done)|omega|(simp;done)|(simp;omega)) ?_
      clear g1 g3 g7 Hr
      rintro N ⟨e, H, mm, nt⟩ ⟨k, rfl, hk, hk2, g1, g3, g7, g8, Hr, xr, rfl⟩
      simp only [] at g1 g3 g7 g8 Hr xr
      refine .sq fun K33 hK33 => ?_
      refine .q ?_ (by simp (disch := first|omega|(simp only[ln];omega)) [g7, g8]; rfl)
      refine .c (fun h60 => ?_) (fun h60 => ?_)
      ·try simp only[dc]at h60
       have hk' : k < i := by omega
       have hki : k < r.length := by omega
       have gk := sd_good (by omega) hG hD hki
       have hmt := l4Meet_fc (sd r i) (sd r k) gi gk
       obtain ⟨b1, b2, b3, c1, c2, c3, s1, s2, s3, t1, t2, t3, h4V, ones⟩ := l4V_k gi gk
       obtain ⟨o1, o2, o3, o4, o5, o6⟩ := ones
       rw [h4V] at hmt
       obtain ⟨M, hM⟩ : ∃ M, meetI (sd r i) (sd r k) = M := ⟨_, rfl⟩
       rw [hM] at hmt
       have hbd : badS r i k ↔ ((nxt r.length i k ∧ M.1 ≠ 1) ∨ (¬ nxt r.length i k ∧ M.1 ≠ 0)) := by have := bad_iff (by omega) hG hD hk' hi'; unfold badS; rw [this]; unfold mkd; rw [hM]
       refine .skip ?_
       refine hK33 _ ?_
       refine .sq fun K35 hK35 => ?_
       refine .block ?_
       refine .sq fun K36 hK36 => ?_
       refine .old fun hold => ?_
       refine .d 13 ?_
       refine .k 2 (fun fs37 hfs37 => ?_) (by simp (disch := first|omega|(simp only[ln];omega)) [runDf.eq_def, runF1, runF2, stepF.eq_def, updo.eq_def, hupo.eq_def, opSto1.eq_def, List.take_succ_cons, List.take_zero, g1, g7, g8, Hr, o1, o2, o3, o4, o5, o6]; rfl)
       refine .f (l5Side_fc r i hi' hl) hb78 ?_ (ha := by simp (disch := first|omega|(simp only[ln];omega)) [idf_Wd', g1, g7, g8, Hr, o1, o2, o3, o4, o5, o6])
       refine .k 2 (fun fs38 hfs38 => ?_) (by simp (disch := first|omega|(simp only[ln];omega)) [runDf.eq_def, runF1, runF2, stepF.eq_def, updo.eq_def, hupo.eq_def, opSto1.eq_def, List.take_succ_cons, List.take_zero, g1, g7, g8, Hr, o1, o2, o3, o4, o5, o6]; rfl)
       refine .f (l5Side_fc r k hki hl) hb78 ?_ (ha := by simp (disch := first|omega|(simp only[ln];omega)) [idf_Wd', g1, g7, g8, Hr, o1, o2, o3, o4, o5, o6])
       refine .f hmt hb123 ?_ (ha := by simp (disch := first|omega|(simp only[ln];omega)) [idf_Wd', g1, g7, g8, Hr, o1, o2, o3, o4, o5, o6])
       refine .k 3 (fun fs39 hfs39 => ?_) (by simp (disch := first|omega|(simp only[ln];omega)) [runDf.eq_def, runF1, runF2, stepF.eq_def, updo.eq_def, hupo.eq_def, opSto1.eq_def, List.take_succ_cons, List.take_zero, g1, g7, g8, Hr, o1, o2, o3, o4, o5, o6]; rfl)
       refine DP.runF1q (by simp (disch := first|omega|(simp only[ln];omega)) [runDf.eq_def, runF1, runF2, stepF.eq_def, updo.eq_def, hupo.eq_def, opSto1.eq_def, g1, g7, g8, Hr, o1, o2, o3, o4, o5, o6]; rfl) fun fq40 hfq40 => ?_
       simp [qids, asksB, Op.operands, topId] at hfq40
       simp only [updo]
       refine .k 2 (fun fs41 hfs41 => ?_) (by simp (disch := first|omega|(simp only[ln];omega)) [runDf.eq_def, runF1, runF2, stepF.eq_def, updo.eq_def, hupo.eq_def, opSto1.eq_def, List.take_succ_cons, List.take_zero, g1, g7, g8, Hr, o1, o2, o3, o4, o5, o6]; rfl)
       refine DQ.asg1 _ rfl rfl ?_
       simp only [updo]
       refine DQ.sto1 (m := 13) [10] _ (by simp (disch := first|omega|(simp only[ln];omega)) [runDf.eq_def, runF1, runF2, stepF.eq_def, updo.eq_def, hupo.eq_def, opSto1.eq_def, g1, g7, g8, Hr, o1, o2, o3, o4, o5, o6]; rfl) rfl (by simp only[ln, hfs37, hfs38, hfs39, hfs41];omega) (by kernel_rfl) (by intro k f hk hex; simp only [List.mem_cons, List.not_mem_nil, or_false] at hex; rcases hex with rfl <;> (simp [List.getElem?_append, hfs37, hfs38, hfs39, hfs41] at hk; subst hk; refine ⟨?_, by first | omega | (simp; done) | (simp; omega)⟩; simp [qids, asksB, Op.operands, Call.operands, topId, numS, numI, Wd, hfq40, g1, g7, g8]; try omega)) ?_
       try simp only []
       refine DQ.sto1 (m := 13) [] _ (by simp (disch := first|omega|(simp only[ln];omega)) [runDf.eq_def, runF1, runF2, stepF.eq_def, updo.eq_def, hupo.eq_def, opSto1.eq_def, g1, g7, g8, Hr, o1, o2, o3, o4, o5, o6]; rfl) rfl (by simp only[ln, hfs37, hfs38, hfs39, hfs41];omega) (by kernel_rfl) (by intro k f hk hex; simp only [List.not_mem_nil] at hex) ?_
       try simp only []
       refine hK36 _ ?_
       refine .sq fun K42 hK42 => ?_
       have J42 : ∀ s : St, (∃ nb : Bool, (nb = true ↔ nxt r.length i k) ∧ s.env 1 = .ptr nx 0 0 ∧ s.env 3 = .int .i64 (r.length : Int) ∧ s.env 7 = .int .i64 (i : Int) ∧ s.env 8 = .int .i64 (k : Int) ∧ s.env 9 = .int .i64 (M.1 : Int) ∧ s.env 12 = .bool nb ∧ s.heap nx = some (1, [[.isl (r.map Sp.cells)]]) ∧ nx < s.nx ∧ s.nt = 101) → K42 s := by
        clear g1 g3 g7 g8 Hr xr
        rintro ⟨e, H, mm, nt⟩ ⟨nb, hnb, g1, g3, g7, g8, g9, g12, Hr, xr, rfl⟩
        simp only [] at g1 g3 g7 g8 g9 g12 Hr xr
        refine hK42 _ ?_
        refine .sq fun K43 hK43 => ?_
        cases hnbv : nb
        ·have hnn : ¬ nxt r.length i k := fun h => by have := hnb.2 h; rw [hnbv] at this; simp at this
         refine .r ?_ (by simp (disch := first|omega|(simp only[ln];omega)) [g9, g12, hnbv]; rfl)
         refine hK43 _ ?_
         refine .c (t := M.1 != 0) (fun h100 => ?_) (fun h100 => ?_) (by simp (disch := first|omega|(simp only[ln];omega)) [bne])
         ·try simp only[dc]at h100
          have m0 : M.1 ≠ 0 := by simpa using h100
          have hbad : badS r i k := hbd.2 (.inr ⟨hnn, m0⟩)
          refine .q ?_
          refine .ret ?_
          exact hK _ _ _ _ trivial ((Fin.m).cast (by rw [rgF_cross h3 h12 hG hD ⟨i, k, hk', hi', hbad⟩]))
         ·try simp only[dc]at h100
          have m0 : M.1 = 0 := by simpa using h100
          have hnbad : ¬ badS r i k := fun h => by rcases hbd.1 h with h | h; exact hnn h.1; exact h.2 m0
          refine .skip ?_
          refine hK35 _ ?_
          refine .r ?_ (by simp (disch := first|omega|(simp only[ln];omega)) [g8]; rfl)
          refine ⟨i - (k + 1), by omega, k + 1, rfl, by omega, fun j h => by rcases Nat.lt_succ_iff_lt_or_eq.1 h with h | h; exact hk2 j h; rw [h]; exact hnbad, ?_, ?_, ?_, ?_, ?_, ?_, rfl⟩ <;> first|(simp (disch := omega) [g1, g3, g7, g8, Hr];done)|omega|(simp;done)|(simp;omega)
        ·have hnn := hnb.1 hnbv
         by_cases m1 : M.1 = 1
         ·have d1 : (M.1 != 1) = false := by simp [m1]
          refine .r ?_ (by simp (disch := first|omega|(simp only[ln];omega)) [g9, g12, hnbv, d1]; rfl)
          refine hK43 _ ?_
          refine .c (fun h100 => ?_) (fun h100 => ?_)
          ·simp at h100
          ·try simp only[dc]at h100
           have hnbad : ¬ badS r i k := fun h => by rcases hbd.1 h with h | h; exact h.2 m1; exact h.1 hnn
           refine .skip ?_
           refine hK35 _ ?_
           refine .r ?_ (by simp (disch := first|omega|(simp only[ln];omega)) [g8]; rfl)
           refine ⟨i - (k + 1), by omega, k + 1, rfl, by omega, fun j h => by rcases Nat.lt_succ_iff_lt_or_eq.1 h with h | h; exact hk2 j h; rw [h]; exact hnbad, ?_, ?_, ?_, ?_, ?_, ?_, rfl⟩ <;> first|(simp (disch := omega) [g1, g3, g7, g8, Hr];done)|omega|(simp;done)|(simp;omega)
         ·have d1 : (M.1 != 1) = true := by simp [m1]
          refine .r ?_ (by simp (disch := first|omega|(simp only[ln];omega)) [g9, g12, hnbv, d1]; rfl)
          refine hK43 _ ?_
          refine .c (fun h100 => ?_) (fun h100 => ?_)
          ·try simp only[dc]at h100
           have hbad : badS r i k := hbd.2 (.inl ⟨hnn, m1⟩)
           refine .q ?_
           refine .ret ?_
           exact hK _ _ _ _ trivial ((Fin.m).cast (by rw [rgF_cross h3 h12 hG hD ⟨i, k, hk', hi', hbad⟩]))
          ·simp at h100
       by_cases q1 : (k : Int) = (i : Int) - 1
       ·have c1 : ((k : Int) == (i : Int) - 1) = true := by simp [q1]
        refine .r ?_ (by simp (disch := first|omega|(simp only[ln];omega)) [g1, g3, g7, g8, Hr, c1]; rfl)
        refine J42 _ ?_
        refine ⟨true, ⟨fun _ => .inl (by omega), fun _ => rfl⟩, ?_, ?_, ?_, ?_, ?_, ?_, ?_, ?_, rfl⟩ <;> first|(simp (disch := omega) [g1, g3, g7, g8, Hr];done)|omega|(simp;done)|(simp;omega)
       ·have c1 : ((k : Int) == (i : Int) - 1) = false := by simp [q1]
        by_cases q2 : k = 0
        ·have c2 : ((k : Int) == 0) = true := by simp [q2]
         have c2' : (k == 0) = true := by simp [q2]
         by_cases q3 : (i : Int) = (r.length : Int) - 1
         ·have c3 : ((i : Int) == (r.length : Int) - 1) = true := by simp [q3]
          refine .r ?_ (by simp (disch := first|omega|(simp only[ln];omega)) [g1, g3, g7, g8, Hr, c1, c2, c2', c3]; rfl)
          refine J42 _ ?_
          refine ⟨true, ⟨fun _ => .inr ⟨by omega, by omega⟩, fun _ => rfl⟩, ?_, ?_, ?_, ?_, ?_, ?_, ?_, ?_, rfl⟩ <;> first|(simp (disch := omega) [g1, g3, g7, g8, Hr];done)|omega|(simp;done)|(simp;omega)
         ·have c3 : ((i : Int) == (r.length : Int) - 1) = false := by simp [q3]
          refine .r ?_ (by simp (disch := first|omega|(simp only[ln];omega)) [g1, g3, g7, g8, Hr, c1, c2, c2', c3]; rfl)
          refine J42 _ ?_
          refine ⟨false, ⟨fun h => by simp at h, fun h => by rcases h with h | ⟨h, h'⟩ <;> omega⟩, ?_, ?_, ?_, ?_, ?_, ?_, ?_, ?_, rfl⟩ <;> first|(simp (disch := omega) [g1, g3, g7, g8, Hr];done)|omega|(simp;done)|(simp;omega)
        ·have c2 : ((k : Int) == 0) = false := by simp; omega
         have c2' : (k == 0) = false := by simp; omega
         refine .r ?_ (by simp (disch := first|omega|(simp only[ln];omega)) [g1, g3, g7, g8, Hr, c1, c2, c2']; rfl)
         refine J42 _ ?_
         refine ⟨false, ⟨fun h => by simp at h, fun h => by rcases h with h | ⟨h, h'⟩ <;> omega⟩, ?_, ?_, ?_, ?_, ?_, ?_, ?_, ?_, rfl⟩ <;> first|(simp (disch := omega) [g1, g3, g7, g8, Hr];done)|omega|(simp;done)|(simp;omega)
      ·try simp only[dc]at h60
       have hn1 : ∀ k', k' < i → ¬ badS r i k' := fun k' h => hk2 k' (by omega)
       refine .exit ?_
       refine hK31 _ ?_
       refine .r ?_ (by simp (disch := first|omega|(simp only[ln];omega)) [g7]; rfl)
       refine ⟨r.length - (i + 1), by omega, i + 1, rfl, by omega, fun j k h h' => by rcases Nat.lt_succ_iff_lt_or_eq.1 h' with h' | h'; exact hok j k h h'; rw [h']; exact hn1 k (by omega), ?_, ?_, ?_, ?_, ?_, rfl⟩ <;> first|(simp (disch := omega) [g1, g3, g7, Hr];done)|omega|(simp;done)|(simp;omega)
     ·try simp only[dc]at h55
      have hX : ¬ rgX r := by rintro ⟨j, k, q1, q2, q3⟩; exact hok j k q1 (by omega) q3
      refine .exit ?_
      refine hK27 _ ?_
      refine .q ?_
      refine .ret ?_
      exact hK _ _ _ _ trivial ((Fin.m).cast (by rw [rgF_ok h3 h12 hG hD hX]))
theorem l5Ok_fc (r : List Sp) (hl : r.length ≤ 1099511627776) : FC Tryz.prog 31 [.agg [.isl (r.map Sp.cells)]] (.bool (decide (rgF r = 0))) := by
 refine .b Tryz.func31 6 (fun nx K hK => ?_) (hi := by simp [idfL, idf, idfLL_iff, Sp.av, Sp.cells, Sg.av, Sg.cells])
 refine .q ?_
 refine .sq fun K2 hK2 => ?_
 refine .region ?_
 refine .kf 1 (ringFaultS_fc r hl) hb72 ?_
 refine .e ?_
 refine hK2 _ ?_
 refine .ret ?_
 exact hK _ _ _ _ trivial ((Fin.m).cast (by rw [beqdI]))
set_option maxHeartbeats 1000000 in
theorem area2S_fc (r : List Sp) (hg : spsGood r) (hl : r.length ≤ 12) : FC Tryz.prog 69 [.agg [.isl (r.map Sp.cells)]] (.int .i64 (area r : Int)) := by
 refine .b Tryz.func69 43 (fun nx K hK => ?_) (hi := by simp [idfL, idf, idfLL_iff, Sp.av, Sp.cells, Sg.av, Sg.cells])
 refine .q ?_
 refine .q ?_
 refine .sq fun K3 hK3 => ?_
 refine .q ?_
 refine .block ?_
 
 refine .loop (fun N s => ∃ i : Nat, N = r.length - i ∧ i ≤ r.length ∧ s.env 1 = .ptr nx 0 0 ∧ s.env 3 = .int .i64 (arS r i : Int) ∧ s.env 4 = .int .i64 (i : Int) ∧ s.heap nx = some (1, [[.isl (r.map Sp.cells)]]) ∧ nx < s.nx ∧ s.nt = 43) (r.length) (by refine ⟨0, by omega, by omega, ?_, ?_, ?_, ?_, ?_, rfl⟩ <;> first|(simp (disch := omega) [arS];done)|omega|(simp;done)|(simp;omega)) ?_
 rintro N ⟨e, H, mm, nt⟩ ⟨i, rfl, hi, g1, g3, g4, Hr, xr, rfl⟩
 simp only [] at g1 g3 g4 Hr xr
 refine .sq fun K5 hK5 => ?_
 refine .q ?_ (by simp (disch := first|omega|(simp only[ln];omega)) [g1, Hr, g4, List.length_map]; rfl)
 refine .c (fun h11 => ?_) (fun h11 => ?_)
 ·try simp only[dc]at h11
  have hi' : i < r.length := by omega
  have hat := rg_at hi'
  obtain ⟨j, hj⟩ : ∃ j : Nat, j = (i + 1) % r.length := ⟨_, rfl⟩
  have hjl : j < r.length := by rw [hj]; exact nx1_lt hi'
  have htm : Int.tmod ((i : Int) + 1) (r.length : Int) = (j : Int) := by rw [hj]; exact ite_tmod hi'
  have hat2 := rg_at hjl
  have hnj : gs r j = nx1 r i := by rw [hj]; rfl
  have hne : ¬ r = [] := by intro h; rw [h] at hi'; simp at hi'
  have tb := arS_term (hg _ (gs_mem hi')) (hg _ (gs_mem hjl))
  have sb := arS_b hg i hi
  have hst : arS r (i + 1) = arS r i + ((gs r i).x * (gs r j).y - (gs r i).y * (gs r j).x) := by rw [hnj]; rfl
  have hst2 : arS r (i + 1) = arS r i + (gs r i).x * (gs r j).y - (gs r i).y * (gs r j).x := by rw [hst]; omega
  refine .skip ?_
  refine hK5 _ ?_
  refine .sq fun K7 hK7 => ?_
  refine .block ?_
  refine .q ?_ (by simp (disch := first|omega|(simp only[ln];omega)) [if_pos, g1, Hr, g4, hat, List.length_map]; rfl)
  refine .sq fun K9 hK9 => ?_
  refine .df 11 ?_ (by simp (disch := first|omega|(simp only[ln];omega)) [runDf.eq_def, runF1, runF2, stepF.eq_def, updo.eq_def, hupo.eq_def, opSto1.eq_def, if_pos, g1, Hr, g4, hat2, htm, hne, List.length_map]; rfl)
  refine hK9 _ ?_
  refine .r ?_ (by simp (disch := first|omega|(simp only[ln];omega)) [g3]; rfl)
  refine hK7 _ ?_
  refine .r ?_ (by simp (disch := first|omega|(simp only[ln];omega)) [g4]; rfl)
  refine ⟨r.length - (i + 1), by omega, i + 1, rfl, by omega, ?_, ?_, ?_, ?_, ?_, rfl⟩ <;> first|(simp (disch := omega) [g1, g3, g4, Hr, hst2];done)|omega|(simp;done)|(simp;omega)
 ·try simp only[dc]at h11
  have hin : i = r.length := by omega
  subst hin
  refine .exit ?_
  refine hK3 _ ?_
  refine .q ?_ (by simp (disch := first|omega|(simp only[ln];omega)) [g3]; rfl)
  refine .ret ?_
  exact hK _ _ _ _ trivial ((Fin.m).cast (by rfl))
set_option maxHeartbeats 2000000 in
theorem l5Meet_fc (a b : List Sp) (za : rgF a = 0) (zb : rgF b = 0) : FC Tryz.prog 153 [.agg [.isl (a.map Sp.cells)], .agg [.isl (b.map Sp.cells)]] (.bool (rgsM a b)) := by
 obtain ⟨a1, a2, a3, a4, _⟩ := rgF_zero za
 obtain ⟨b1, b2, b3, b4, _⟩ := rgF_zero zb
 refine .b Tryz.func153 37 (fun nx K hK => ?_) (hi := by simp [idfL, idf, idfLL_iff, Sp.av, Sp.cells, Sg.av, Sg.cells])
 refine .q ?_
 refine .sq fun K2 hK2 => ?_
 refine .q ?_
 refine .block ?_
 
 refine .loop (fun N s => ∃ i : Nat, N = a.length - i ∧ i ≤ a.length ∧ (∀ i' k, i' < i → k < b.length → (meetI (sd a i') (sd b k)).1 = 0) ∧ s.env 2 = .ptr nx 0 0 ∧ s.env 3 = .ptr (nx + 1) 0 0 ∧ s.env 5 = .int .i64 (i : Int) ∧ s.heap nx = some (1, [[.isl (a.map Sp.cells)]]) ∧ nx < s.nx ∧ s.heap (nx + 1) = some (1, [[.isl (b.map Sp.cells)]]) ∧ (nx + 1) < s.nx ∧ s.nt = 37) (a.length) (by refine ⟨0, by omega, by omega, fun j k h _ => by omega, ?_, ?_, ?_, ?_, ?_, ?_, ?_, rfl⟩ <;> first|(simp (disch := omega);done)|omega|(simp;done)|(simp;omega)) ?_
 rintro N ⟨e, H, mm, nt⟩ ⟨i, rfl, hi, hno, g2, g3, g5, Ha, xa, Hb, xb, rfl⟩
 simp only [] at g2 g3 g5 Ha xa Hb xb
 refine .sq fun K4 hK4 => ?_
 refine .q ?_ (by simp (disch := first|omega|(simp only[ln];omega)) [g2, g5, Ha, List.length_map]; rfl)
 refine .c (fun h14 => ?_) (fun h14 => ?_)
 ·try simp only[dc]at h14
  have hi' : i < a.length := by omega
  have gi := sd_good (by omega) a3 a4 hi'
  refine .skip ?_
  refine hK4 _ ?_
  refine .sq fun K6 hK6 => ?_
  refine .block ?_
  refine .q ?_
  refine .block ?_
  
  refine .loop (fun N s => ∃ k : Nat, N = b.length - k ∧ k ≤ b.length ∧ (∀ k', k' < k → (meetI (sd a i) (sd b k')).1 = 0) ∧ s.env 2 = .ptr nx 0 0 ∧ s.env 3 = .ptr (nx + 1) 0 0 ∧ s.env 5 = .int .i64 (i : Int) ∧ s.env 6 = .int .i64 (k : Int) ∧ s.heap nx = some (1, [[.isl (a.map Sp.cells)]]) ∧ nx < s.nx ∧ s.heap (nx + 1) = some (1, [[.isl (b.map Sp.cells)]]) ∧ (nx + 1) < s.nx ∧ s.nt = 37) (b.length) (by refine ⟨0, by omega, by omega, fun j h => by omega, ?_, ?_, ?_, ?_, ?_, ?_, ?_, ?_, rfl⟩ <;> first|(simp (disch := omega) [g2, g3, g5, Ha, Hb];done)|omega|(simp;done)|(simp;omega)) ?_
  clear g2 g3 g5 Ha Hb
  rintro N ⟨e, H, mm, nt⟩ ⟨k, rfl, hk, hk2, g2, g3, g5, g6, Ha, xa, Hb, xb, rfl⟩
  simp only [] at g2 g3 g5 g6 Ha xa Hb xb
  refine .sq fun K8 hK8 => ?_
  refine .q ?_ (by simp (disch := first|omega|(simp only[ln];omega)) [g3, g6, Hb, List.length_map]; rfl)
  refine .c (fun h21 => ?_) (fun h21 => ?_)
  ·try simp only[dc]at h21
   have hk' : k < b.length := by omega
   have gk := sd_good (by omega) b3 b4 hk'
   have hmt := l4Meet_fc (sd a i) (sd b k) gi gk
   obtain ⟨b1, b2, b3, c1, c2, c3, s1, s2, s3, t1, t2, t3, h4V, ones⟩ := l4V_k gi gk
   obtain ⟨o1, o2, o3, o4, o5, o6⟩ := ones
   rw [h4V] at hmt
   obtain ⟨M, hM⟩ : ∃ M, meetI (sd a i) (sd b k) = M := ⟨_, rfl⟩
   rw [hM] at hmt
   refine .skip ?_
   refine hK8 _ ?_
   refine .sq fun K10 hK10 => ?_
   refine .block ?_
   refine .sq fun K11 hK11 => ?_
   refine .old fun hold => ?_
   refine .d 13 ?_
   refine .k 2 (fun fs12 hfs12 => ?_) (by simp (disch := first|omega|(simp only[ln];omega)) [runDf.eq_def, runF1, runF2, stepF.eq_def, updo.eq_def, hupo.eq_def, opSto1.eq_def, List.take_succ_cons, List.take_zero, g2, g3, g5, g6, Ha, Hb, o1, o2, o3, o4, o5, o6]; rfl)
   refine .f (l5Side_fc a i hi' (by omega)) hb78 ?_ (ha := by simp (disch := first|omega|(simp only[ln];omega)) [idf_Wd', g2, g3, g5, g6, Ha, Hb, o1, o2, o3, o4, o5, o6])
   refine .k 2 (fun fs13 hfs13 => ?_) (by simp (disch := first|omega|(simp only[ln];omega)) [runDf.eq_def, runF1, runF2, stepF.eq_def, updo.eq_def, hupo.eq_def, opSto1.eq_def, List.take_succ_cons, List.take_zero, g2, g3, g5, g6, Ha, Hb, o1, o2, o3, o4, o5, o6]; rfl)
   refine .f (l5Side_fc b k hk' (by omega)) hb78 ?_ (ha := by simp (disch := first|omega|(simp only[ln];omega)) [idf_Wd', g2, g3, g5, g6, Ha, Hb, o1, o2, o3, o4, o5, o6])
   refine .f hmt hb123 ?_ (ha := by simp (disch := first|omega|(simp only[ln];omega)) [idf_Wd', g2, g3, g5, g6, Ha, Hb, o1, o2, o3, o4, o5, o6])
   refine .k 3 (fun fs14 hfs14 => ?_) (by simp (disch := first|omega|(simp only[ln];omega)) [runDf.eq_def, runF1, runF2, stepF.eq_def, updo.eq_def, hupo.eq_def, opSto1.eq_def, List.take_succ_cons, List.take_zero, g2, g3, g5, g6, Ha, Hb, o1, o2, o3, o4, o5, o6]; rfl)
   refine DP.runF1q (by simp (disch := first|omega|(simp only[ln];omega)) [runDf.eq_def, runF1, runF2, stepF.eq_def, updo.eq_def, hupo.eq_def, opSto1.eq_def, g2, g3, g5, g6, Ha, Hb, o1, o2, o3, o4, o5, o6]; rfl) fun fq15 hfq15 => ?_
   simp [qids, asksB, Op.operands, topId] at hfq15
   simp only [updo]
   refine .k 2 (fun fs16 hfs16 => ?_) (by simp (disch := first|omega|(simp only[ln];omega)) [runDf.eq_def, runF1, runF2, stepF.eq_def, updo.eq_def, hupo.eq_def, opSto1.eq_def, List.take_succ_cons, List.take_zero, g2, g3, g5, g6, Ha, Hb, o1, o2, o3, o4, o5, o6]; rfl)
   refine DQ.asg1 _ rfl rfl ?_
   simp only [updo]
   refine DQ.sto1 (m := 13) [10] _ (by simp (disch := first|omega|(simp only[ln];omega)) [runDf.eq_def, runF1, runF2, stepF.eq_def, updo.eq_def, hupo.eq_def, opSto1.eq_def, g2, g3, g5, g6, Ha, Hb, o1, o2, o3, o4, o5, o6]; rfl) rfl (by simp only[ln, hfs12, hfs13, hfs14, hfs16];omega) (by kernel_rfl) (by intro k f hk hex; simp only [List.mem_cons, List.not_mem_nil, or_false] at hex; rcases hex with rfl <;> (simp [List.getElem?_append, hfs12, hfs13, hfs14, hfs16] at hk; subst hk; refine ⟨?_, by first | omega | (simp; done) | (simp; omega)⟩; simp [qids, asksB, Op.operands, Call.operands, topId, numS, numI, Wd, hfq15, g2, g3, g5, g6]; try omega)) ?_
   try simp only []
   refine DQ.sto1 (m := 13) [] _ (by simp (disch := first|omega|(simp only[ln];omega)) [runDf.eq_def, runF1, runF2, stepF.eq_def, updo.eq_def, hupo.eq_def, opSto1.eq_def, g2, g3, g5, g6, Ha, Hb, o1, o2, o3, o4, o5, o6]; rfl) rfl (by simp only[ln, hfs12, hfs13, hfs14, hfs16];omega) (by kernel_rfl) (by intro k f hk hex; simp only [List.not_mem_nil] at hex) ?_
   try simp only []
   refine hK11 _ ?_
   refine .q ?_
   refine .c (t := M.1 != 0) (fun h36 => ?_) (fun h36 => ?_) (by simp (disch := first|omega|(simp only[ln];omega)) [bne])
   ·try simp only[dc]at h36
    have hm1 : M.1 ≠ 0 := by simpa using h36
    have hr : rgsM a b = true := rgsM_yes ⟨i, k, hi', hk', by rw [hM]; exact hm1⟩
    refine .q ?_
    refine .ret ?_
    exact hK _ _ _ _ trivial ((Fin.m).cast (by rw [hr]))
   ·try simp only[dc]at h36
    have hm0 : (meetI (sd a i) (sd b k)).1 = 0 := by rw [hM]; simpa using h36
    refine .skip ?_
    refine hK10 _ ?_
    refine .r ?_ (by simp (disch := first|omega|(simp only[ln];omega)) [g6]; rfl)
    refine ⟨b.length - (k + 1), by omega, k + 1, rfl, by omega, fun j h => by rcases Nat.lt_succ_iff_lt_or_eq.1 h with h | h; exact hk2 j h; rw [h]; exact hm0, ?_, ?_, ?_, ?_, ?_, ?_, ?_, ?_, rfl⟩ <;> first|(simp (disch := omega) [g2, g3, g5, g6, Ha, Hb];done)|omega|(simp;done)|(simp;omega)
  ·try simp only[dc]at h21
   have hn1 : ∀ k, k < b.length → (meetI (sd a i) (sd b k)).1 = 0 := fun k' h => hk2 k' (by omega)
   refine .exit ?_
   refine hK6 _ ?_
   refine .r ?_ (by simp (disch := first|omega|(simp only[ln];omega)) [g5]; rfl)
   refine ⟨a.length - (i + 1), by omega, i + 1, rfl, by omega, fun j k h h' => by rcases Nat.lt_succ_iff_lt_or_eq.1 h with h | h; exact hno j k h h'; rw [h]; exact hn1 k h', ?_, ?_, ?_, ?_, ?_, ?_, ?_, rfl⟩ <;> first|(simp (disch := omega) [g2, g3, g5, Ha, Hb];done)|omega|(simp;done)|(simp;omega)
 ·try simp only[dc]at h14
  have hr : rgsM a b = false := rgsM_no (by rintro ⟨j, k, q1, q2, q3⟩; exact q3 (hno j k (by omega) q2))
  refine .exit ?_
  refine hK2 _ ?_
  refine .q ?_
  refine .ret ?_
  exact hK _ _ _ _ trivial ((Fin.m).cast (by rw [hr]))
end

end Go.Proofs.YtdcajfgeleopiaaGreat

/- Walks: FnExactRingFault, FnExactRingArea2, FnExactRingsMeet, walked. -/
namespace Go.Proofs.YtdcajfgeleopiaaGreat
open Go Go.RowKit
set_option linter.unusedSimpArgs false
set_option linter.unusedVariables false
set_option maxRecDepth 100000
attribute [local simp] szT2 byT2 agT2 unT2 zoT2 szT3 byT3 agT3 unT3 zoT3 szT22 byT22 agT22 elT22 unT22 zoT22 szT24 byT24 agT24 flT24 fdT24_0 zoT24 szT32 byT32 agT32 elT32 unT32 zoT32 szT34 byT34 agT34 flT34 fdT34_0 zoT34 szT53 byT53 agT53 flT53 fdT53_0 fdT53_1 zoT53 szT123 byT123 agT123 flT123 fdT123_0 fdT123_1 zoT123

def szN (len : Nat) (n : Int) : Int := if n - len < 0 then -1 else n - len
theorem szN_le {k : Nat} {n : Int} (h : ¬ szN k n < 0) : (k : Int) ≤ n ∧ szN k n = n - k := by unfold szN at *; split at h <;> simp_all; omega

section
attribute [local simp] Sp.av Sp.cells Sg.av Sg.cells
theorem szSpotS_fc (l : List Sp) (n : Int) (h0 : 0 ≤ n) (h1 : n ≤ 9223372036854775807) (hl : l.length ≤ 9223372036854775807) : FC Tryz.prog 30 [.isl (l.map Sp.cells), .int .i64 n] (.int .i64 (szN l.length n)) := by
 refine .b Tryz.func30 12 (fun nx K hK => ?_) (hi := by simp [idfL, idf, idfLL_iff, Sp.av, Sp.cells, Sg.av, Sg.cells])
 refine .q ?_
 refine .q ?_ (by simp (disch := first|omega|(simp only[ln];omega)) [List.length_map]; rfl)
 refine .sq fun K3 hK3 => ?_
 refine .q ?_
 refine .c (t := decide (n - (l.length : Int) < 0)) (fun h10 => ?_) (fun h10 => ?_)
 ·try simp only[dc]at h10
  refine .q ?_
  refine .ret ?_
  exact hK _ _ _ _ trivial ((Fin.m).cast (by unfold szN; rw [if_pos h10]))
 ·try simp only[dc]at h10
  refine .skip ?_
  refine hK3 _ ?_
  refine .q ?_
  refine .ret ?_
  exact hK _ _ _ _ trivial ((Fin.m).cast (by unfold szN; rw [if_neg h10]))
end
set_option maxHeartbeats 1000000 in
theorem toSpotS_fc (l : List Sp) (hl : l.length ≤ 1048576) : FC Tryz.prog 35 [.isl (l.map Sp.cells)] (.isl (l.map Sp.cells)) := by
 refine .b Tryz.func35 23 (fun nx K hK => ?_) (hi := by simp [idfL, idf, idfLL_iff, Sp.av, Sp.cells, Sg.av, Sg.cells]) (hr := by simp [idf, idfL, idfLL_iff, Sp.cells, Sg.cells])
 refine .q ?_
 refine .q ?_ (by simp (disch := first|omega|(simp only[ln];omega)) [if_pos, List.length_map]; rfl)
 refine .sq fun K3 hK3 => ?_
 refine .q ?_
 refine .block ?_
 refine .loop (fun N s => ∃ i id : Nat, N = l.length - i ∧ i ≤ l.length ∧ s.env 0 = .isl (l.map Sp.cells) ∧ s.env 3 = .osl id 0 l.length ∧ s.env 4 = .int .i64 (i : Int) ∧ s.heap id = some (2, fillR Sp.cells [.int .i64 0, .int .i64 0] l i) ∧ s.nt = 23) (l.length) (⟨0, nx, by omega, by omega, by simp, by simp, by simp, by simp [← fillR_zero], rfl⟩) ?_
 rintro N ⟨e, H, mm, nt⟩ ⟨i, id, rfl, hi, h0, h3, h4, hH, rfl⟩
 simp only [] at h0 h3 h4 hH
 refine .sq fun K5 hK5 => ?_
 refine .q ?_ (by simp (disch := first|omega|(simp only[ln];omega)) [h0, h4, List.length_map]; rfl)
 refine .c (fun h11 => ?_) (fun h11 => ?_)
 ·try simp only[dc]at h11
  have hi' : i < l.length := by omega
  obtain ⟨p, hpi⟩ : ∃ p, l[i]? = some p := ⟨l[i], by simp [hi']⟩
  have hpm : (l.map Sp.cells)[i]? = some p.cells := by rw [List.getElem?_map, hpi]; rfl
  have fst := fillR_set Sp.cells [.int .i64 0, .int .i64 0] l hpi
  simp only [Sp.cells] at fst
  have fl := fillR_len Sp.cells [.int .i64 0, .int .i64 0] l hi
  have fg := fillR_getE Sp.cells [.int .i64 0, .int .i64 0] l hi'
  refine .skip ?_
  refine hK5 _ ?_
  refine .sq fun K7 hK7 => ?_
  refine .block ?_
  refine .region ?_
  refine .kf 6 (toSpot_fc p) hb82 ?_ (by simp (disch := first|omega|(simp only[ln];omega)) [List.take_succ_cons, List.take_zero, if_pos, h0, h3, h4, hH, fl, fg, hpm, Sp.cells, Sg.cells, Sp.av, Sg.av, List.length_map]; rfl) (ha := by simp (disch := first|omega|(simp only[ln];omega)) [idf_Wd', if_pos, h0, h3, h4, hH, fl, fg, hpm, Sp.cells, Sg.cells, Sp.av, Sg.av, List.length_map])
  refine .e ?_ (by simp (disch := first|omega|(simp only[ln];omega)) [if_pos, h0, h3, h4, hH, fl, fg, hpm, Sp.cells, Sg.cells, Sp.av, Sg.av, List.length_map]; rfl)
  refine hK7 _ ?_
  refine .r ?_ (by simp (disch := first|omega|(simp only[ln];omega)) [h4]; rfl)
  refine ⟨l.length - (i + 1), by omega, i + 1, id, rfl, by omega, by simp [h0], by simp [h3], by simp (disch := omega) [h4], by simp [fst], rfl⟩
 ·try simp only[dc]at h11
  have hin : i = l.length := by omega
  rw [hin, fillR_all] at hH
  refine .exit ?_
  refine hK3 _ ?_
  refine .q ?_ (by simp (disch := first|omega|(simp only[ln];omega)) [h3]; rfl)
  refine .ret ?_
  exact hK _ _ _ _ trivial (((Fin.mk (r := .osl id 0 l.length) (by simp [aRes, aResL, aRes1])).freeze (id := id) (z := 2) (es := l.map Sp.cells) (by simp [hH])).cast (fz_fill _ _ rfl))
section
attribute [local simp] Sp.av Sp.cells Sg.av Sg.cells
theorem eqSpot_fc (p : Sp) : FC Tryz.prog 90 [p.av, p.av] (.bool true) := by
 refine .b Tryz.func90 15 (fun nx K hK => ?_) (hi := by simp [idfL, idf, idfLL_iff, Sp.av, Sp.cells, Sg.av, Sg.cells])
 refine .q ?_
 refine .sq fun K2 hK2 => ?_
 refine .q ?_
 refine .c (fun h9 => ?_) (fun h9 => ?_)
 ·simp at h9
 ·try simp only[dc]at h9
  refine .skip ?_
  refine hK2 _ ?_
  refine .sq fun K4 hK4 => ?_
  refine .q ?_
  refine .c (fun h14 => ?_) (fun h14 => ?_)
  ·simp at h14
  ·try simp only[dc]at h14
   refine .skip ?_
   refine hK4 _ ?_
   refine .q ?_
   refine .ret ?_
   exact hK _ _ _ _ trivial ((Fin.m))
set_option maxHeartbeats 1000000 in
theorem eqSpotS_fc (l : List Sp) (hl : l.length ≤ 9223372036854775807) : FC Tryz.prog 40 [.isl (l.map Sp.cells), .isl (l.map Sp.cells)] (.bool true) := by
 refine .b Tryz.func40 27 (fun nx K hK => ?_) (hi := by simp [idfL, idf, idfLL_iff, Sp.av, Sp.cells, Sg.av, Sg.cells])
 refine .q ?_
 refine .sq fun K2 hK2 => ?_
 refine .q ?_ (by simp (disch := first|omega|(simp only[ln];omega)) [List.length_map]; rfl)
 refine .c (fun h10 => ?_) (fun h10 => ?_)
 ·simp at h10
 ·try simp only[dc]at h10
  refine .skip ?_
  refine hK2 _ ?_
  refine .sq fun K4 hK4 => ?_
  refine .q ?_
  refine .block ?_
  
  refine .loop (fun N s => ∃ i : Nat, N = l.length - i ∧ i ≤ l.length ∧ s.env 0 = .isl (l.map Sp.cells) ∧ s.env 1 = .isl (l.map Sp.cells) ∧ s.env 5 = .int .i64 (i : Int) ∧ s.nt = 27) (l.length) (by refine ⟨0, by omega, by omega, ?_, ?_, ?_, rfl⟩ <;> first|(simp (disch := omega);done)|omega|(simp;done)|(simp;omega)) ?_
  rintro N ⟨e, H, mm, nt⟩ ⟨i, rfl, hi, g0, g1, g5, rfl⟩
  simp only [] at g0 g1 g5
  refine .sq fun K6 hK6 => ?_
  refine .q ?_ (by simp (disch := first|omega|(simp only[ln];omega)) [g0, g5, List.length_map]; rfl)
  refine .c (fun h14 => ?_) (fun h14 => ?_)
  ·try simp only[dc]at h14
   have hi' : i < l.length := by omega
   obtain ⟨p, hpi⟩ : ∃ p, l[i]? = some p := ⟨l[i], by simp [hi']⟩
   have hpm : (l.map Sp.cells)[i]? = some p.cells := by rw [List.getElem?_map, hpi]; rfl
   refine .skip ?_
   refine hK6 _ ?_
   refine .sq fun K8 hK8 => ?_
   refine .block ?_
   refine .sq fun K9 hK9 => ?_
   refine .d 10 ?_
   refine .k 8 (fun fs10 hfs10 => ?_) (by simp (disch := first|omega|(simp only[ln];omega)) [runDf.eq_def, runF1, runF2, stepF.eq_def, updo.eq_def, hupo.eq_def, opSto1.eq_def, List.take_succ_cons, List.take_zero, if_pos, g0, g1, g5, hpm, List.length_map]; rfl)
   refine .f (eqSpot_fc p) hb90 ?_ (ha := by simp (disch := first|omega|(simp only[ln];omega)) [idf_Wd', if_pos, g0, g1, g5, hpm, List.length_map])
   refine .k 1 (fun fs11 hfs11 => ?_) (by simp (disch := first|omega|(simp only[ln];omega)) [runDf.eq_def, runF1, runF2, stepF.eq_def, updo.eq_def, hupo.eq_def, opSto1.eq_def, List.take_succ_cons, List.take_zero, if_pos, g0, g1, g5, hpm, List.length_map]; rfl)
   refine .r 10 (by simp only[ln, hfs10, hfs11];omega) ?_ (by simp (disch := first|omega|(simp only[ln];omega)) [runDf.eq_def, runF1, runF2, stepF.eq_def, updo.eq_def, hupo.eq_def, opSto1.eq_def, if_pos, g0, g1, g5, hpm, List.length_map]; rfl)
   refine hK9 _ ?_
   refine .c (fun h26 => ?_) (fun h26 => ?_)
   ·simp at h26
   ·try simp only[dc]at h26
    refine .skip ?_
    refine hK8 _ ?_
    refine .r ?_ (by simp (disch := first|omega|(simp only[ln];omega)) [g5]; rfl)
    refine ⟨l.length - (i + 1), by omega, i + 1, rfl, by omega, ?_, ?_, ?_, rfl⟩ <;> first|(simp (disch := omega) [g0, g1, g5];done)|omega|(simp;done)|(simp;omega)
  ·try simp only[dc]at h14
   refine .exit ?_
   refine hK4 _ ?_
   refine .q ?_
   refine .ret ?_
   exact hK _ _ _ _ trivial ((Fin.m))
theorem szRing_fc (r : List Sp) (n : Int) (h0 : 0 ≤ n) (h1 : n ≤ 9223372036854775807) (hl : r.length ≤ 9223372036854775807) : FC Tryz.prog 8 [.agg [.isl (r.map Sp.cells)], .int .i64 n] (.int .i64 (szN r.length n)) := by
 refine .b Tryz.func8 12 (fun nx K hK => ?_) (hi := by simp [idfL, idf, idfLL_iff, Sp.av, Sp.cells, Sg.av, Sg.cells])
 refine .q ?_
 refine .sq fun K2 hK2 => ?_
 refine .region ?_
 refine .kf 3 (szSpotS_fc r n h0 h1 hl) hb30 ?_
 refine .e ?_
 refine hK2 _ ?_
 refine .sq fun K3 hK3 => ?_
 refine .q ?_
 refine .c (t := decide (szN r.length n < 0)) (fun h10 => ?_) (fun h10 => ?_)
 ·try simp only[dc]at h10
  have hm : szN r.length n = -1 := by unfold szN at *; split at h10 <;> simp_all <;> omega
  refine .q ?_
  refine .ret ?_
  exact hK _ _ _ _ trivial ((Fin.m).cast (by rw [hm]))
 ·try simp only[dc]at h10
  refine .skip ?_
  refine hK3 _ ?_
  refine .q ?_
  refine .ret ?_
  exact hK _ _ _ _ trivial (Fin.m)
theorem toRing_fc (r : List Sp) (hl : r.length ≤ 1048576) : FC Tryz.prog 10 [.agg [.isl (r.map Sp.cells)]] (.agg [.isl (r.map Sp.cells)]) := by
 refine .b Tryz.func10 9 (fun nx K hK => ?_) (hi := by simp [idfL, idf, idfLL_iff, Sp.av, Sp.cells, Sg.av, Sg.cells]) (hr := by simp [idfL, idf, idfLL_iff, Sp.av, Sp.cells, Sg.av, Sg.cells])
 refine .q ?_
 refine .q ?_
 refine .sq fun K3 hK3 => ?_
 refine .region ?_
 refine .kf 2 (toSpotS_fc r hl) hb35 ?_
 refine .e ?_
 refine hK3 _ ?_
 refine .q ?_
 refine .ret ?_
 exact hK _ _ _ _ trivial (Fin.m)
theorem eqRing_fc (r : List Sp) (hl : r.length ≤ 9223372036854775807) : FC Tryz.prog 13 [.agg [.isl (r.map Sp.cells)], .agg [.isl (r.map Sp.cells)]] (.bool true) := by
 refine .b Tryz.func13 11 (fun nx K hK => ?_) (hi := by simp [idfL, idf, idfLL_iff, Sp.av, Sp.cells, Sg.av, Sg.cells])
 refine .q ?_
 refine .sq fun K2 hK2 => ?_
 refine .sq fun K3 hK3 => ?_
 refine .region ?_
 refine .kf 4 (eqSpotS_fc r hl) hb40 ?_
 refine .e ?_
 refine hK3 _ ?_
 refine .c (fun h10 => ?_) (fun h10 => ?_)
 ·simp at h10
 ·try simp only[dc]at h10
  refine .skip ?_
  refine hK2 _ ?_
  refine .q ?_
  refine .ret ?_
  exact hK _ _ _ _ trivial ((Fin.m))
end

end Go.Proofs.YtdcajfgeleopiaaGreat

/- Walks: rows of rings: the laws' own functions. -/
namespace Go.Proofs.YtdcajfgeleopiaaGreat
open Go Go.RowKit
set_option linter.unusedSimpArgs false
set_option linter.unusedVariables false
set_option maxRecDepth 100000
attribute [local simp] szT3 byT3 agT3 unT3 zoT3 szT22 byT22 agT22 elT22 unT22 zoT22 szT24 byT24 agT24 flT24 fdT24_0 zoT24 szT32 byT32 agT32 elT32 unT32 zoT32 szT34 byT34 agT34 flT34 fdT34_0 zoT34 szT56 byT56 agT56 elT56 unT56 zoT56 szT59 byT59 agT59 elT59 unT59 zoT59

section
attribute [local simp] Sp.av Sp.cells Sg.av Sg.cells
set_option maxHeartbeats 1000000 in
theorem szRingS_fc (L : List (List Sp)) (hl : L.length ≤ 9223372036854775807) (hl2 : ∀ l ∈ L, l.length ≤ 9223372036854775807) : FC Tryz.prog 21 [rgs L, .int .i64 1048576] (.int .i64 (srA L 1048576)) := by
 refine .b Tryz.func21 27 (fun nx K hK => ?_) (hi := by simp [idfL, idf, idfLL_iff, rgs, rgC, Sp.cells])
 refine .q ?_
 refine .q ?_ (by simp (disch := first|omega|(simp only[ln];omega)) [rgs, List.length_map]; rfl)
 refine .sq fun K3 hK3 => ?_
 refine .q ?_
 refine .c (fun h11 => ?_) (fun h11 => ?_)
 ·try simp only[dc]at h11
  refine .q ?_
  refine .ret ?_
  exact hK _ _ _ _ trivial ((Fin.m).cast (by unfold srA; rw [if_pos (by omega)]))
 ·try simp only[dc]at h11
  have hv0 : srA L 1048576 = srGo (L.drop 0) (1048576 - (L.length : Int)) := by unfold srA; rw [if_neg (by omega), List.drop_zero]
  refine .skip ?_
  refine hK3 _ ?_
  refine .sq fun K6 hK6 => ?_
  refine .q ?_
  refine .block ?_
  refine .loop (fun N s => ∃ (i : Nat) (n : Int), N = L.length - i ∧ i ≤ L.length ∧ 0 ≤ n ∧ n ≤ 1048576 ∧ srA L 1048576 = srGo (L.drop i) n ∧ s.env 0 = rgs L ∧ s.env 1 = .int .i64 n ∧ s.env 5 = .int .i64 (i : Int) ∧ s.nt = 27) (L.length) (⟨0, 1048576 - (L.length : Int), by omega, by omega, by omega, by omega, hv0, by simp [rgs], by simp, by simp, rfl⟩) ?_
  rintro N ⟨e, H, mm, nt⟩ ⟨i, n, rfl, hi, hn0, hn1, hv, h0, h1, h5, rfl⟩
  simp only [] at h0 h1 h5
  refine .sq fun K8 hK8 => ?_
  refine .q ?_ (by simp (disch := first|omega|(simp only[ln];omega)) [h0, h5, rgs, List.length_map]; rfl)
  refine .c (fun h15 => ?_) (fun h15 => ?_)
  ·try simp only[dc]at h15
   have hi' : i < L.length := by omega
   obtain ⟨l, hli⟩ : ∃ l, L[i]? = some l := ⟨L[i], by simp [hi']⟩
   have hmi : (L.map rgC)[i]? = some (rgC l) := by rw [List.getElem?_map, hli]; rfl
   have hmem := List.mem_of_getElem? hli
   have hll := hl2 l hmem
   rw [srGo_drop hli] at hv
   refine .skip ?_
   refine hK8 _ ?_
   refine .sq fun K10 hK10 => ?_
   refine .block ?_
   refine .sq fun K11 hK11 => ?_
   refine .region ?_
   refine .kf 5 (szRing_fc l n hn0 (by omega) hll) hb8 ?_ (by simp (disch := first|omega|(simp only[ln];omega)) [List.take_succ_cons, List.take_zero, if_pos, h0, h1, h5, rgs, hmi, rgC, List.length_map]; rfl) (ha := by simp (disch := first|omega|(simp only[ln];omega)) [idf_Wd', if_pos, h0, h1, h5, rgs, hmi, rgC, List.length_map])
   refine .e ?_ (by simp (disch := first|omega|(simp only[ln];omega)) [if_pos, h0, h1, h5, rgs, hmi, rgC, List.length_map]; rfl)
   refine hK11 _ ?_
   refine .q ?_
   refine .c (fun h25 => ?_) (fun h25 => ?_)
   ·try simp only[dc]at h25
    have hng : n - (l.length : Int) < 0 := by
      unfold szN at h25
      split at h25
      · assumption
      · omega
    refine .q ?_
    refine .ret ?_
    exact hK _ _ _ _ trivial ((Fin.m).cast (by rw [hv, if_pos hng]))
   ·try simp only[dc]at h25
    have hng : ¬ n - (l.length : Int) < 0 := fun h => by
      unfold szN at h25
      rw [if_pos h] at h25; omega
    refine .skip ?_
    refine hK10 _ ?_
    refine .r ?_ (by simp (disch := first|omega|(simp only[ln];omega)) [h5]; rfl)
    refine ⟨L.length - (i + 1), by omega, i + 1, n - (l.length : Int), rfl, by omega, by omega, by omega, by rw [hv, if_neg hng], by simp [h0], by simp [szN, hng], by simp (disch := omega) [h5], rfl⟩
  ·try simp only[dc]at h15
   have hin : i = L.length := by omega
   rw [hin, srGo_end] at hv
   refine .exit ?_
   refine hK6 _ ?_
   refine .q ?_ (by simp (disch := first|omega|(simp only[ln];omega)) [h1]; rfl)
   refine .ret ?_
   exact hK _ _ _ _ trivial ((Fin.m).cast (by rw [hv]))
set_option maxHeartbeats 1000000 in
theorem toRingS_fc (L : List (List Sp)) (hl : L.length ≤ 1048576) (hl2 : ∀ l ∈ L, l.length ≤ 1048576) : FC Tryz.prog 23 [rgs L] (rgs L) := by
 refine .b Tryz.func23 23 (fun nx K hK => ?_) (hi := by simp [idfL, idf, idfLL_iff, rgs, rgC, Sp.cells]) (hr := by simp [idfL, idf, idfLL_iff, rgs, rgC, Sp.cells])
 unfold rgs
 refine .q ?_
 refine .q ?_ (by simp (disch := first|omega|(simp only[ln];omega)) [if_pos, List.length_map]; rfl)
 refine .sq fun K3 hK3 => ?_
 refine .q ?_
 refine .block ?_
 refine .loop (fun N s => ∃ i id : Nat, N = L.length - i ∧ i ≤ L.length ∧ s.env 0 = .isl (L.map rgC) ∧ s.env 3 = .osl id 0 L.length ∧ s.env 4 = .int .i64 (i : Int) ∧ s.heap id = some (1, fillR rgC [.nsl] L i) ∧ s.nt = 23) (L.length) (⟨0, nx, by omega, by omega, by simp, by simp, by simp, by simp [← fillR_zero], rfl⟩) ?_
 rintro N ⟨e, H, mm, nt⟩ ⟨i, id, rfl, hi, h0, h3, h4, hH, rfl⟩
 simp only [] at h0 h3 h4 hH
 refine .sq fun K5 hK5 => ?_
 refine .q ?_ (by simp (disch := first|omega|(simp only[ln];omega)) [h0, h4, List.length_map]; rfl)
 refine .c (fun h11 => ?_) (fun h11 => ?_)
 ·try simp only[dc]at h11
  have hi' : i < L.length := by omega
  obtain ⟨l, hli⟩ : ∃ l, L[i]? = some l := ⟨L[i], by simp [hi']⟩
  have hmi : (L.map rgC)[i]? = some (rgC l) := by rw [List.getElem?_map, hli]; rfl
  have hmem := List.mem_of_getElem? hli
  have fst := fillR_set rgC [.nsl] L hli
  simp only [rgC] at fst
  have fl := fillR_len rgC [.nsl] L hi
  have fg := fillR_getE rgC [.nsl] L hi'
  refine .skip ?_
  refine hK5 _ ?_
  refine .sq fun K7 hK7 => ?_
  refine .block ?_
  refine .region ?_
  refine .kf 6 (toRing_fc l (hl2 l hmem)) hb10 ?_ (by simp (disch := first|omega|(simp only[ln];omega)) [List.take_succ_cons, List.take_zero, if_pos, h0, h3, h4, hH, fl, fg, hmi, rgC, List.length_map]; rfl) (ha := by simp (disch := first|omega|(simp only[ln];omega)) [idf_Wd', if_pos, h0, h3, h4, hH, fl, fg, hmi, rgC, List.length_map])
  refine .e ?_ (by simp (disch := first|omega|(simp only[ln];omega)) [if_pos, h0, h3, h4, hH, fl, fg, hmi, rgC, List.length_map]; rfl)
  refine hK7 _ ?_
  refine .r ?_ (by simp (disch := first|omega|(simp only[ln];omega)) [h4]; rfl)
  refine ⟨L.length - (i + 1), by omega, i + 1, id, rfl, by omega, by simp [h0], by simp [h3], by simp (disch := omega) [h4], by simp [fst], rfl⟩
 ·try simp only[dc]at h11
  have hin : i = L.length := by omega
  rw [hin, fillR_all] at hH
  refine .exit ?_
  refine hK3 _ ?_
  refine .q ?_ (by simp (disch := first|omega|(simp only[ln];omega)) [h3]; rfl)
  refine .ret ?_
  exact hK _ _ _ _ trivial (((Fin.mk (r := .osl id 0 L.length) (by simp [aRes, aResL, aRes1])).freeze (id := id) (z := 1) (es := L.map rgC) (by simp [hH])).cast (fz_fill _ _ rfl))
set_option maxHeartbeats 1000000 in
theorem eqRingS_fc (L : List (List Sp)) (hl : L.length ≤ 9223372036854775807) (hl2 : ∀ l ∈ L, l.length ≤ 9223372036854775807) : FC Tryz.prog 25 [rgs L, rgs L] (.bool true) := by
 refine .b Tryz.func25 27 (fun nx K hK => ?_) (hi := by simp [idfL, idf, idfLL_iff, rgs, rgC, Sp.cells])
 refine .q ?_
 refine .sq fun K2 hK2 => ?_
 refine .q ?_ (by simp (disch := first|omega|(simp only[ln];omega)) [rgs, List.length_map]; rfl)
 refine .c (fun h10 => ?_) (fun h10 => ?_)
 ·simp at h10
 ·try simp only[dc]at h10
  refine .skip ?_
  refine hK2 _ ?_
  refine .sq fun K4 hK4 => ?_
  refine .q ?_
  refine .block ?_
  refine .loop (fun N s => ∃ i : Nat, N = L.length - i ∧ i ≤ L.length ∧ s.env 0 = rgs L ∧ s.env 1 = rgs L ∧ s.env 5 = .int .i64 (i : Int) ∧ s.nt = 27) (L.length) (⟨0, by omega, by omega, by simp [rgs], by simp [rgs], by simp, rfl⟩) ?_
  rintro N ⟨e, H, mm, nt⟩ ⟨i, rfl, hi, h0, h1, h5, rfl⟩
  simp only [] at h0 h1 h5
  refine .sq fun K6 hK6 => ?_
  refine .q ?_ (by simp (disch := first|omega|(simp only[ln];omega)) [h0, h5, rgs, List.length_map]; rfl)
  refine .c (fun h14 => ?_) (fun h14 => ?_)
  ·try simp only[dc]at h14
   have hi' : i < L.length := by omega
   obtain ⟨l, hli⟩ : ∃ l, L[i]? = some l := ⟨L[i], by simp [hi']⟩
   have hmi : (L.map rgC)[i]? = some (rgC l) := by rw [List.getElem?_map, hli]; rfl
   have hmem := List.mem_of_getElem? hli
   refine .skip ?_
   refine hK6 _ ?_
   refine .sq fun K8 hK8 => ?_
   refine .block ?_
   refine .sq fun K9 hK9 => ?_
   refine .d 10 ?_
   refine .k 8 (fun fs10 hfs10 => ?_) (by simp (disch := first|omega|(simp only[ln];omega)) [runDf.eq_def, runF1, runF2, stepF.eq_def, updo.eq_def, hupo.eq_def, opSto1.eq_def, List.take_succ_cons, List.take_zero, if_pos, h0, h1, h5, hmi, rgs, rgC, List.length_map]; rfl)
   refine .f (eqRing_fc l (hl2 l hmem)) hb13 ?_ (ha := by simp (disch := first|omega|(simp only[ln];omega)) [idf_Wd', if_pos, h0, h1, h5, hmi, rgs, rgC, List.length_map])
   refine .k 1 (fun fs11 hfs11 => ?_) (by simp (disch := first|omega|(simp only[ln];omega)) [runDf.eq_def, runF1, runF2, stepF.eq_def, updo.eq_def, hupo.eq_def, opSto1.eq_def, List.take_succ_cons, List.take_zero, if_pos, h0, h1, h5, hmi, rgs, rgC, List.length_map]; rfl)
   refine .r 10 (by simp only[ln, hfs10, hfs11];omega) ?_ (by simp (disch := first|omega|(simp only[ln];omega)) [runDf.eq_def, runF1, runF2, stepF.eq_def, updo.eq_def, hupo.eq_def, opSto1.eq_def, if_pos, h0, h1, h5, hmi, rgs, rgC, List.length_map]; rfl)
   refine hK9 _ ?_
   refine .c (fun h26 => ?_) (fun h26 => ?_)
   ·simp at h26
   ·try simp only[dc]at h26
    refine .skip ?_
    refine hK8 _ ?_
    refine .r ?_ (by simp (disch := first|omega|(simp only[ln];omega)) [h5]; rfl)
    refine ⟨L.length - (i + 1), by omega, i + 1, rfl, by omega, by simp [h0], by simp [h1], by simp (disch := omega) [h5], rfl⟩
  ·try simp only[dc]at h14
   refine .exit ?_
   refine hK4 _ ?_
   refine .q ?_
   refine .ret ?_
   exact hK _ _ _ _ trivial ((Fin.m))
end

end Go.Proofs.YtdcajfgeleopiaaGreat
