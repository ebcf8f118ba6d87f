/- Walks: where segments meet, by the program (2). -/
import Derived.Test.YtgeecahbahgjbaaGreatG11

namespace Go.Proofs.YtgeecahbahgjbaaGreat
open Go Go.RowKit
set_option linter.unusedSimpArgs false
set_option linter.unusedVariables false
set_option maxRecDepth 100000
attribute [local simp] szT2 byT2 agT2 unT2 zoT2 szT3 byT3 agT3 unT3 zoT3 szT4 byT4 agT4 unT4 zoT4 szT27 byT27 agT27 flT27 fdT27_0 fdT27_1 fdT27_2 fdT27_3 zoT27 szT29 byT29 agT29 flT29 fdT29_0 fdT29_1 fdT29_2 zoT29 szT38 byT38 agT38 flT38 fdT38_0 fdT38_1 zoT38 szT40 byT40 agT40 flT40 fdT40_0 fdT40_1 zoT40 szT108 byT108 agT108 elT108 unT108 zoT108 szT110 byT110 agT110 flT110 fdT110_0 fdT110_1 zoT110 szT112 byT112 agT112 flT112 fdT112_0 fdT112_1 fdT112_2 zoT112

theorem hbNone : hasBody Tryz.prog 187 = true := by kernel_rfl
theorem mul_sg (a b : Int) : -1 ≤ sg3 a * sg3 b ∧ sg3 a * sg3 b ≤ 1 := by
  have := sg3_b a; have := sg3_b b
  have := mul_b (u := sg3 a) (v := sg3 b) (m := 1) (n := 1) (by omega) (by omega) (by omega) (by omega) (by omega)
  omega
theorem lsS_dec2 (p q : Sp) : decide (0 < cmS p q) = lsS q p := by rw [Bool.eq_iff_iff, decide_eq_true_eq]; exact cmS_pos
theorem cmS_deq (p q : Sp) : (cmS p q == 0) = decide (p = q) := by rw [Bool.eq_iff_iff, beq_iff_eq, decide_eq_true_eq]; exact cmS_zero

section
attribute [local simp] idf_numI cells_numI numI_fold Sp.av Sp.cells Sg.av Sg.cells spA spC
set_option maxHeartbeats 8000000 in
theorem meetI_fc (u v : Sg) (gu : u.good = true) (gv : v.good = true) : FC Tryz.prog 104 [u.av, v.av] (.tup [.int .i64 (meetI u v).1, .agg [.int .u64 ((meetI u v).2.1).x.a, .int .u64 ((meetI u v).2.1).x.b, .int .u64 ((meetI u v).2.1).x.c, .int .u64 ((meetI u v).2.1).x.d, .int .u64 ((meetI u v).2.1).y.a, .int .u64 ((meetI u v).2.1).y.b, .int .u64 ((meetI u v).2.1).y.c, .int .u64 ((meetI u v).2.1).y.d, .int .u64 ((meetI u v).2.1).w.a, .int .u64 ((meetI u v).2.1).w.b, .int .u64 ((meetI u v).2.1).w.c, .int .u64 ((meetI u v).2.1).w.d], .agg [.int .u64 ((meetI u v).2.2).x.a, .int .u64 ((meetI u v).2.2).x.b, .int .u64 ((meetI u v).2.2).x.c, .int .u64 ((meetI u v).2.2).x.d, .int .u64 ((meetI u v).2.2).y.a, .int .u64 ((meetI u v).2.2).y.b, .int .u64 ((meetI u v).2.2).y.c, .int .u64 ((meetI u v).2.2).y.d, .int .u64 ((meetI u v).2.2).w.a, .int .u64 ((meetI u v).2.2).w.b, .int .u64 ((meetI u v).2.2).w.c, .int .u64 ((meetI u v).2.2).w.d]]) := by
 have ua := good_a gu
 have ub := good_b gu
 have va := good_a gv
 have vb := good_b gv
 have pua := Sp.b ua
 have pub := Sp.b ub
 have pva := Sp.b va
 have pvb := Sp.b vb
 obtain ⟨A, hA⟩ : ∃ A, crs u.a u.b v.a = A := ⟨_, rfl⟩
 obtain ⟨B, hB⟩ : ∃ B, crs u.a u.b v.b = B := ⟨_, rfl⟩
 obtain ⟨C, hC⟩ : ∃ C, crs v.a v.b u.a = C := ⟨_, rfl⟩
 obtain ⟨D, hD⟩ : ∃ D, crs v.a v.b u.b = D := ⟨_, rfl⟩
 have cA := cross_fc u.a u.b v.a ua ub va
 have cB := cross_fc u.a u.b v.b ua ub vb
 have cC := cross_fc v.a v.b u.a va vb ua
 have cD := cross_fc v.a v.b u.b va vb ub
 have bA := crs_b ua ub va
 have bB := crs_b ua ub vb
 rw [hA] at cA bA
 rw [hB] at cB bB
 rw [hC] at cC
 rw [hD] at cD
 have hnw : noWay u v = (decide (0 < sg3 A * sg3 B) || decide (0 < sg3 C * sg3 D)) := by unfold noWay; rw [hA, hB, hC, hD]
 have hmt : apart u v = true → meetI u v = (0, pt0, pt0) := fun h => by unfold meetI; rw [if_pos h]
 have hmf : apart u v = false → meetI u v = if A = 0 ∧ B = 0 then linP u v else if noWay u v = true then (0, pt0, pt0) else (1, mkP (wayX u v) (wayY u v) (wayW u v), pt0) := fun h => by unfold meetI; rw [h, hA, hB]; rfl
 have hap : apart u v = (decide (mn u.b.x v.b.x < mx u.a.x v.a.x) || decide (mn (mx u.a.y u.b.y) (mx v.a.y v.b.y) < mx (mn u.a.y u.b.y) (mn v.a.y v.b.y))) := rfl
 have eW : wayW u v = A - B := by unfold wayW; rw [hA, hB]
 have eX : wayX u v = v.a.x * (A - B) + A * (v.b.x - v.a.x) := by unfold wayX; rw [eW, hA]
 have eY : wayY u v = v.a.y * (A - B) + A * (v.b.y - v.a.y) := by unfold wayY; rw [eW, hA]
 have sAB := mul_sg A B
 have sCD := mul_sg C D
 clear hA hB hC hD
 refine .b Tryz.func104 215 (fun nx K hK => ?_) (hi := by simp [idfL, idf, Sp.av, Sp.cells, Sg.av, Sg.cells])
 refine .q ?_
 refine .q ?_
 refine .sq fun K3 hK3 => ?_
 refine .sq fun K4 hK4 => ?_
 cases q1 : decide (mn u.b.x v.b.x < mx u.a.x v.a.x)
 ·refine .r ?_ (by simp (disch := first|omega|(simp only[ln];omega)) [mx_fold, mn_fold, q1]; rfl)
  refine hK4 _ ?_
  refine .c (t := decide (mn (mx u.a.y u.b.y) (mx v.a.y v.b.y) < mx (mn u.a.y u.b.y) (mn v.a.y v.b.y))) (fun h67 => ?_) (fun h67 => ?_)
  ·try simp only[dc]at h67
   have hm := hmt (by rw [hap, decide_eq_true h67]; simp)
   refine .sq fun K5 hK5 => ?_
   refine .region ?_
   refine .k 1 ?_
   refine AOPS.fcall (none_fc) rfl rfl (by simp; rfl) hbNone (by simp (disch := first|omega|(simp only[ln];omega)) [idf_Wd']) (by simp (disch := first|omega|(simp only[ln];omega))) (by simp) ?_
   simp only [puts_some, updo]
   refine .e ?_
   refine hK5 _ ?_
   refine .ret ?_
   exact hK _ _ _ _ trivial ((Fin.m).cast (by rw [hm]; try rfl))
  ·try simp only[dc]at h67
   have hm := hmf (by rw [hap, q1, decide_eq_false h67]; rfl)
   refine .skip ?_
   refine hK3 _ ?_
   refine .sq fun K6 hK6 => ?_
   refine .d 14 ?_
   refine .k 6 (fun fs7 hfs7 => ?_)
   refine .f cA hb188 ?_
   refine .k 6 (fun fs8 hfs8 => ?_)
   refine .f cB hb188 ?_
   refine .r 14 (by simp only[ln, hfs7, hfs8];omega) ?_
   refine hK6 _ ?_
   refine .sq fun K9 hK9 => ?_
   refine .sq fun K10 hK10 => ?_
   by_cases hA0 : A = 0
   ·have c1 : (A == 0) = true := by simp [hA0]
    by_cases hB0 : B = 0
    ·have c2 : (B == 0) = true := by simp [hB0]
     have hm' := hm
     rw [if_pos ⟨hA0, hB0⟩] at hm'
     refine .r ?_ (by simp (disch := first|omega|(simp only[ln];omega)) [c1, c2]; rfl)
     refine hK10 _ ?_
     refine .c (fun h92 => ?_) (fun h92 => ?_)
     ·try simp only[dc]at h92
      refine .sq fun K11 hK11 => ?_
      refine .old fun hold => ?_
      refine .d 6 ?_
      refine .k 2 (fun fs12 hfs12 => ?_)
      refine DP.runF1q (by simp (disch := first|omega|(simp only[ln];omega)) [runDf.eq_def, runF1, runF2, stepF.eq_def, updo.eq_def, hupo.eq_def, opSto1.eq_def]; rfl) fun fq13 hfq13 => ?_
      simp [qids, asksB, Op.operands, topId] at hfq13
      simp only [updo]
      refine DP.runF1q (by simp (disch := first|omega|(simp only[ln];omega)) [runDf.eq_def, runF1, runF2, stepF.eq_def, updo.eq_def, hupo.eq_def, opSto1.eq_def]; rfl) fun fq14 hfq14 => ?_
      simp [qids, asksB, Op.operands, topId] at hfq14
      simp only [updo]
      refine .k 2 (fun fs15 hfs15 => ?_)
      refine DQ.sto1 (m := 6) [2, 3] _ (by simp (disch := first|omega|(simp only[ln];omega)) [runDf.eq_def, runF1, runF2, stepF.eq_def, updo.eq_def, hupo.eq_def, opSto1.eq_def]; rfl) rfl (by simp only[ln, hfs12, hfs15];omega) (by kernel_rfl) (by intro k f hk hex; simp only [List.mem_cons, List.not_mem_nil, or_false] at hex; rcases hex with rfl | rfl <;> (simp [List.getElem?_append, hfs12, hfs15] at hk; subst hk; refine ⟨?_, by first | omega | (simp; done) | (simp; omega)⟩; simp [qids, asksB, Op.operands, Call.operands, topId, numS, numI, Wd, hfq13, hfq14]; try omega)) ?_
      try simp only []
      refine DQ.sto1 (m := 6) [] _ (by simp (disch := first|omega|(simp only[ln];omega)) [runDf.eq_def, runF1, runF2, stepF.eq_def, updo.eq_def, hupo.eq_def, opSto1.eq_def]; rfl) rfl (by simp only[ln, hfs12, hfs15];omega) (by kernel_rfl) (by intro k f hk hex; simp only [List.not_mem_nil] at hex) ?_
      try simp only []
      refine hK11 _ ?_
      refine .sq fun K16 hK16 => ?_
      have J16 : ∀ s : St, (∃ (lo hi : Sp) (ia ib : Nat), lo = lowS u v ∧ hi = u.b ∧ s.env 2 = .ptr nx 0 0 ∧ s.env 3 = .ptr (nx + 1) 0 0 ∧ s.env 5 = .ptr (nx + 1 + 1) 0 0 ∧ s.env 6 = .ptr (nx + 1 + 1 + 1) 0 0 ∧ s.env 7 = .fn 187 [] ∧ s.env 10 = .ptr ia 0 0 ∧ s.env 11 = .ptr ib 0 0 ∧ s.heap nx = some (4, [[.int .i64 u.a.x, .int .i64 u.a.y, .int .i64 u.b.x, .int .i64 u.b.y]]) ∧ s.heap (nx + 1) = some (4, [[.int .i64 v.a.x, .int .i64 v.a.y, .int .i64 v.b.x, .int .i64 v.b.y]]) ∧ s.heap (nx + 1 + 1) = some (12, [[.int .u64 0, .int .u64 0, .int .u64 0, .int .u64 0, .int .u64 0, .int .u64 0, .int .u64 0, .int .u64 0, .int .u64 0, .int .u64 0, .int .u64 0, .int .u64 0]]) ∧ s.heap (nx + 1 + 1 + 1) = some (12, [[.int .u64 0, .int .u64 0, .int .u64 0, .int .u64 0, .int .u64 0, .int .u64 0, .int .u64 0, .int .u64 0, .int .u64 0, .int .u64 0, .int .u64 0, .int .u64 0]]) ∧ s.heap ia = some (2, [[.int .i64 lo.x, .int .i64 lo.y]]) ∧ s.heap ib = some (2, [[.int .i64 hi.x, .int .i64 hi.y]]) ∧ (nx + 1 + 1 + 1) < ia ∧ ia < ib ∧ ib < s.nx ∧ s.nt = 215) → K16 s := by
       rintro ⟨e, H, mm, nt⟩ ⟨lo, hi, ia, ib, hlo, hhi, g2, g3, g5, g6, g7, g10, g11, hU, hV, hP, hQ, hL, hH, hia, hib, hm, rfl⟩
       simp only [] at g2 g3 g5 g6 g7 g10 g11 hU hV hP hQ hL hH hia hib hm
       rw [hhi] at hH
       clear hhi hi
       refine hK16 _ ?_
       refine .sq fun K17 hK17 => ?_
       have J17 : ∀ s : St, (∃ (lo hi : Sp) (ia ib : Nat), lo = lowS u v ∧ hi = highS u v ∧ s.env 2 = .ptr nx 0 0 ∧ s.env 3 = .ptr (nx + 1) 0 0 ∧ s.env 5 = .ptr (nx + 1 + 1) 0 0 ∧ s.env 6 = .ptr (nx + 1 + 1 + 1) 0 0 ∧ s.env 7 = .fn 187 [] ∧ s.env 10 = .ptr ia 0 0 ∧ s.env 11 = .ptr ib 0 0 ∧ s.heap nx = some (4, [[.int .i64 u.a.x, .int .i64 u.a.y, .int .i64 u.b.x, .int .i64 u.b.y]]) ∧ s.heap (nx + 1) = some (4, [[.int .i64 v.a.x, .int .i64 v.a.y, .int .i64 v.b.x, .int .i64 v.b.y]]) ∧ s.heap (nx + 1 + 1) = some (12, [[.int .u64 0, .int .u64 0, .int .u64 0, .int .u64 0, .int .u64 0, .int .u64 0, .int .u64 0, .int .u64 0, .int .u64 0, .int .u64 0, .int .u64 0, .int .u64 0]]) ∧ s.heap (nx + 1 + 1 + 1) = some (12, [[.int .u64 0, .int .u64 0, .int .u64 0, .int .u64 0, .int .u64 0, .int .u64 0, .int .u64 0, .int .u64 0, .int .u64 0, .int .u64 0, .int .u64 0, .int .u64 0]]) ∧ s.heap ia = some (2, [[.int .i64 lo.x, .int .i64 lo.y]]) ∧ s.heap ib = some (2, [[.int .i64 hi.x, .int .i64 hi.y]]) ∧ (nx + 1 + 1 + 1) < ia ∧ ia < ib ∧ ib < s.nx ∧ s.nt = 215) → K17 s := by
        clear g2 g3 g5 g6 g7 g10 g11 hU hV hP hQ hL hH hia hib hm hlo lo
        rintro ⟨e, H, mm, nt⟩ ⟨lo, hi, ia, ib, hlo, hhi, g2, g3, g5, g6, g7, g10, g11, hU, hV, hP, hQ, hL, hH, hia, hib, hm, rfl⟩
        simp only [] at g2 g3 g5 g6 g7 g10 g11 hU hV hP hQ hL hH hia hib hm
        have gl : lo.good = true := by rw [hlo]; unfold lowS; split; exact va; exact ua
        have gh : hi.good = true := by rw [hhi]; unfold highS; split; exact vb; exact ub
        have hli : linP u v = if lsS hi lo = true then (0, pt0, pt0) else if lo = hi then (1, ptS lo, pt0) else (2, ptS lo, ptS hi) := by rw [hlo, hhi]; rfl
        clear hlo hhi
        refine hK17 _ ?_
        refine .sq fun K18 hK18 => ?_
        refine .sq fun K19 hK19 => ?_
        refine .region ?_
        refine .kf 2 (cmpSpots_fc lo hi) hb113 ?_ (by simp (disch := first|omega|(simp only[ln];omega)) [List.take_succ_cons, List.take_zero, g2, g3, g5, g6, g7, g10, g11, hU, hV, hP, hQ, hL, hH]; rfl) (ha := by simp (disch := first|omega|(simp only[ln];omega)) [idf_Wd', g2, g3, g5, g6, g7, g10, g11, hU, hV, hP, hQ, hL, hH])
        refine .e ?_ (by simp (disch := first|omega|(simp only[ln];omega)) [g2, g3, g5, g6, g7, g10, g11, hU, hV, hP, hQ, hL, hH]; rfl)
        refine hK19 _ ?_
        refine .block ?_
        refine .q ?_
        refine .c (t := lsS hi lo) (fun h114 => ?_) (fun h114 => ?_) (by simp (disch := first|omega|(simp only[ln];omega)) [lsS_dec2])
        ·try simp only[dc]at h114
         refine .sq fun K21 hK21 => ?_
         refine .region ?_
         refine .k 1 ?_ (by simp (disch := first|omega|(simp only[ln];omega)) [List.take_succ_cons, List.take_zero, g2, g3, g5, g6, g7, g10, g11, hU, hV, hP, hQ, hL, hH]; rfl)
         refine AOPS.fcall (none_fc) rfl rfl (by simp; rfl) hbNone (by simp (disch := first|omega|(simp only[ln];omega)) [idf_Wd', g2, g3, g5, g6, g7, g10, g11, hU, hV, hP, hQ, hL, hH]) (by simp (disch := first|omega|(simp only[ln];omega)) [g2, g3, g5, g6, g7, g10, g11, hU, hV, hP, hQ, hL, hH]) (by simp) ?_
         simp only [puts_some, updo]
         refine .e ?_ (by simp (disch := first|omega|(simp only[ln];omega)) [g2, g3, g5, g6, g7, g10, g11, hU, hV, hP, hQ, hL, hH]; rfl)
         refine hK21 _ ?_
         refine .ret ?_
         exact hK _ _ _ _ trivial ((Fin.mk (by simp (disch := omega) [aRes, aResL, aRes1, g5, g6]; rfl)).cast (by rw [hm', hli, if_pos h114]; try rfl))
        ·try simp only[dc]at h114
         refine .q ?_
         refine .c (t := decide (lo = hi)) (fun h122 => ?_) (fun h122 => ?_) (by simp (disch := first|omega|(simp only[ln];omega)) [cmS_deq])
         ·try simp only[dc]at h122
          refine .sq fun K23 hK23 => ?_
          refine .region ?_
          refine .kf 1 (pointOfI_fc lo gl) hb57 ?_ (by simp (disch := first|omega|(simp only[ln];omega)) [List.take_succ_cons, List.take_zero, g2, g3, g5, g6, g7, g10, g11, hU, hV, hP, hQ, hL, hH]; rfl) (ha := by simp (disch := first|omega|(simp only[ln];omega)) [idf_Wd', g2, g3, g5, g6, g7, g10, g11, hU, hV, hP, hQ, hL, hH])
          refine .e ?_ (by simp (disch := first|omega|(simp only[ln];omega)) [g2, g3, g5, g6, g7, g10, g11, hU, hV, hP, hQ, hL, hH]; rfl)
          refine hK23 _ ?_
          refine .ret ?_
          exact hK _ _ _ _ trivial ((Fin.mk (by simp (disch := omega) [aRes, aResL, aRes1, g5, g6]; rfl)).cast (by rw [hm', hli, if_neg (by rw [h114]; simp), if_pos h122]; try rfl))
         ·try simp only[dc]at h122
          refine .skip ?_
          refine hK18 _ ?_
          refine .sq fun K24 hK24 => ?_
          refine .old fun hold => ?_
          refine .d 4 ?_
          refine .k 1 (fun fs25 hfs25 => ?_) (by simp (disch := first|omega|(simp only[ln];omega)) [runDf.eq_def, runF1, runF2, stepF.eq_def, updo.eq_def, hupo.eq_def, opSto1.eq_def, List.take_succ_cons, List.take_zero, g2, g3, g5, g6, g7, g10, g11, hU, hV, hP, hQ, hL, hH]; rfl)
          refine .f (pointOfI_fc lo gl) hb57 ?_ (ha := by simp (disch := first|omega|(simp only[ln];omega)) [idf_Wd', g2, g3, g5, g6, g7, g10, g11, hU, hV, hP, hQ, hL, hH])
          refine DP.runF1q (by simp (disch := first|omega|(simp only[ln];omega)) [runDf.eq_def, runF1, runF2, stepF.eq_def, updo.eq_def, hupo.eq_def, opSto1.eq_def, g2, g3, g5, g6, g7, g10, g11, hU, hV, hP, hQ, hL, hH]; rfl) fun fq26 hfq26 => ?_
          simp [qids, asksB, Op.operands, topId] at hfq26
          simp only [updo]
          refine .f (pointOfI_fc hi gh) hb57 ?_ (ha := by simp (disch := first|omega|(simp only[ln];omega)) [idf_Wd', g2, g3, g5, g6, g7, g10, g11, hU, hV, hP, hQ, hL, hH])
          refine DQ.asg1 _ rfl rfl ?_
          simp only [updo]
          refine DQ.sto1 (m := 4) [2, 3] _ (by simp (disch := first|omega|(simp only[ln];omega)) [runDf.eq_def, runF1, runF2, stepF.eq_def, updo.eq_def, hupo.eq_def, opSto1.eq_def, g2, g3, g5, g6, g7, g10, g11, hU, hV, hP, hQ, hL, hH]; rfl) rfl (by simp only[ln, hfs25];omega) (by kernel_rfl) (by intro k f hk hex; simp only [List.mem_cons, List.not_mem_nil, or_false] at hex; rcases hex with rfl | rfl <;> (simp [List.getElem?_append, hfs25] at hk; subst hk; refine ⟨?_, by first | omega | (simp; done) | (simp; omega)⟩; simp [qids, asksB, Op.operands, Call.operands, topId, numS, numI, Wd, hfq26, g2, g3, g5, g6, g7, g10, g11]; try omega)) ?_
          try simp only []
          refine DQ.sto1 (m := 4) [] _ (by simp (disch := first|omega|(simp only[ln];omega)) [runDf.eq_def, runF1, runF2, stepF.eq_def, updo.eq_def, hupo.eq_def, opSto1.eq_def, g2, g3, g5, g6, g7, g10, g11, hU, hV, hP, hQ, hL, hH]; rfl) rfl (by simp only[ln, hfs25];omega) (by kernel_rfl) (by intro k f hk hex; simp only [List.not_mem_nil] at hex) ?_
          try simp only []
          refine hK24 _ ?_
          refine .ret ?_
          exact hK _ _ _ _ trivial ((Fin.mk (by simp (disch := omega) [aRes, aResL, aRes1, g5, g6]; rfl)).cast (by rw [hm', hli, if_neg (by rw [h114]; simp), if_neg h122]; try rfl))
       refine .sq fun K27 hK27 => ?_
       refine .region ?_
       refine .kf 3 (cmpSpots_fc v.b u.b) hb113 ?_ (by simp (disch := first|omega|(simp only[ln];omega)) [List.take_succ_cons, List.take_zero, g2, g3, g5, g6, g7, g10, g11, hU, hV, hP, hQ, hL, hH]; rfl) (ha := by simp (disch := first|omega|(simp only[ln];omega)) [idf_Wd', g2, g3, g5, g6, g7, g10, g11, hU, hV, hP, hQ, hL, hH])
       refine .e ?_ (by simp (disch := first|omega|(simp only[ln];omega)) [g2, g3, g5, g6, g7, g10, g11, hU, hV, hP, hQ, hL, hH]; rfl)
       refine hK27 _ ?_
       refine .c (t := lsS v.b u.b) (fun h108 => ?_) (fun h108 => ?_) (by simp (disch := first|omega|(simp only[ln];omega)) [lsS_dec])
       ·try simp only[dc]at h108
        refine .r ?_ (by simp (disch := first|omega|(simp only[ln];omega)) [g2, g3, g5, g6, g7, g10, g11, hU, hV, hP, hQ, hL, hH]; rfl)
        refine J17 _ ?_
        exact ⟨lo, v.b, ia, ib, hlo, by unfold highS; rw [if_pos h108], by first | (simp; done) | (simp [g2, g3, g5, g6, g7, g10, g11]; done), by first | (simp; done) | (simp [g2, g3, g5, g6, g7, g10, g11]; done), by first | (simp; done) | (simp [g2, g3, g5, g6, g7, g10, g11]; done), by first | (simp; done) | (simp [g2, g3, g5, g6, g7, g10, g11]; done), by first | (simp; done) | (simp [g2, g3, g5, g6, g7, g10, g11]; done), by first | (simp; done) | (simp [g2, g3, g5, g6, g7, g10, g11]; done), by first | (simp; done) | (simp [g2, g3, g5, g6, g7, g10, g11]; done), by first | (simp (disch := omega); done) | (simp (disch := omega) [hU, hV, hP, hQ, hL, hH]; done), by first | (simp (disch := omega); done) | (simp (disch := omega) [hU, hV, hP, hQ, hL, hH]; done), by first | (simp (disch := omega); done) | (simp (disch := omega) [hU, hV, hP, hQ, hL, hH]; done), by first | (simp (disch := omega); done) | (simp (disch := omega) [hU, hV, hP, hQ, hL, hH]; done), by first | (simp (disch := omega); done) | (simp (disch := omega) [hU, hV, hP, hQ, hL, hH]; done), by first | (simp (disch := omega); done) | (simp (disch := omega) [hU, hV, hP, hQ, hL, hH]; done), by omega, by omega, by first | omega | (simp; done) | (simp; omega), rfl⟩
       ·try simp only[dc]at h108
        refine .skip ?_
        refine J17 _ ?_
        exact ⟨lo, u.b, ia, ib, hlo, by unfold highS; rw [h108]; rfl, by first | (simp; done) | (simp [g2, g3, g5, g6, g7, g10, g11]; done), by first | (simp; done) | (simp [g2, g3, g5, g6, g7, g10, g11]; done), by first | (simp; done) | (simp [g2, g3, g5, g6, g7, g10, g11]; done), by first | (simp; done) | (simp [g2, g3, g5, g6, g7, g10, g11]; done), by first | (simp; done) | (simp [g2, g3, g5, g6, g7, g10, g11]; done), by first | (simp; done) | (simp [g2, g3, g5, g6, g7, g10, g11]; done), by first | (simp; done) | (simp [g2, g3, g5, g6, g7, g10, g11]; done), by first | (simp (disch := omega); done) | (simp (disch := omega) [hU, hV, hP, hQ, hL, hH]; done), by first | (simp (disch := omega); done) | (simp (disch := omega) [hU, hV, hP, hQ, hL, hH]; done), by first | (simp (disch := omega); done) | (simp (disch := omega) [hU, hV, hP, hQ, hL, hH]; done), by first | (simp (disch := omega); done) | (simp (disch := omega) [hU, hV, hP, hQ, hL, hH]; done), by first | (simp (disch := omega); done) | (simp (disch := omega) [hU, hV, hP, hQ, hL, hH]; done), by first | (simp (disch := omega); done) | (simp (disch := omega) [hU, hV, hP, hQ, hL, hH]; done), by omega, by omega, by first | omega | (simp; done) | (simp; omega), rfl⟩
      refine .sq fun K28 hK28 => ?_
      refine .region ?_
      refine .kf 3 (cmpSpots_fc v.a u.a) hb113 ?_
      refine .e ?_
      refine hK28 _ ?_
      refine .c (t := lsS u.a v.a) (fun h101 => ?_) (fun h101 => ?_) (by simp (disch := first|omega|(simp only[ln];omega)) [lsS_dec2])
      ·try simp only[dc]at h101
       refine .r ?_
       refine J16 _ ?_
       exact ⟨v.a, u.b, (nx + 1 + 1 + 1 + 1) + 16 + 4, (nx + 1 + 1 + 1 + 1) + 16 + 5, by unfold lowS; rw [if_pos h101], rfl, by simp, by simp, by simp, by simp, by simp, by simp, by simp, by simp (disch := omega), by simp (disch := omega), by simp (disch := omega), by simp (disch := omega), by simp (disch := omega), by simp (disch := omega), by omega, by omega, by first | omega | (simp; done) | (simp; omega), rfl⟩
      ·try simp only[dc]at h101
       refine .skip ?_
       refine J16 _ ?_
       exact ⟨u.a, u.b, (nx + 1 + 1 + 1 + 1) + 16 + 4, (nx + 1 + 1 + 1 + 1) + 16 + 5, by unfold lowS; rw [h101]; rfl, rfl, by simp, by simp, by simp, by simp, by simp, by simp, by simp, by simp (disch := omega), by simp (disch := omega), by simp (disch := omega), by simp (disch := omega), by simp (disch := omega), by simp (disch := omega), by omega, by omega, by first | omega | (simp; done) | (simp; omega), rfl⟩
     ·simp at h92
    ·have c2 : (B == 0) = false := by simp [hB0]
     have hm' := hm
     rw [if_neg (fun h => hB0 h.2)] at hm'
     refine .r ?_ (by simp (disch := first|omega|(simp only[ln];omega)) [c1, c2]; rfl)
     refine hK10 _ ?_
     refine .c (fun h92 => ?_) (fun h92 => ?_)
     ·simp at h92
     ·try simp only[dc]at h92
      refine .skip ?_
      refine hK9 _ ?_
      refine .sq fun K29 hK29 => ?_
      refine .d 14 ?_
      refine .k 6 (fun fs30 hfs30 => ?_)
      refine .f cC hb188 ?_
      refine .k 6 (fun fs31 hfs31 => ?_)
      refine .f cD hb188 ?_
      refine .r 14 (by simp only[ln, hfs30, hfs31];omega) ?_
      refine hK29 _ ?_
      refine .sq fun K32 hK32 => ?_
      refine .sq fun K33 hK33 => ?_
      cases q3 : decide (0 < sg3 A * sg3 B)
      ·refine .region ?_
       refine .kf 1 (signI_fc A) hb88 ?_ (by simp (disch := first|omega|(simp only[ln];omega)) [List.take_succ_cons, List.take_zero, q3]; rfl) (ha := by simp (disch := first|omega|(simp only[ln];omega)) [idf_Wd', q3])
       refine .kf 1 (signI_fc B) hb88 ?_ (by simp (disch := first|omega|(simp only[ln];omega)) [List.take_succ_cons, List.take_zero, q3]; rfl) (ha := by simp (disch := first|omega|(simp only[ln];omega)) [idf_Wd', q3])
       refine .kf 4 (signI_fc C) hb88 ?_ (by simp (disch := first|omega|(simp only[ln];omega)) [List.take_succ_cons, List.take_zero, q3]; rfl) (ha := by simp (disch := first|omega|(simp only[ln];omega)) [idf_Wd', q3])
       refine .kf 1 (signI_fc D) hb88 ?_ (by simp (disch := first|omega|(simp only[ln];omega)) [List.take_succ_cons, List.take_zero, q3]; rfl) (ha := by simp (disch := first|omega|(simp only[ln];omega)) [idf_Wd', q3])
       refine .e ?_ (by simp (disch := first|omega|(simp only[ln];omega)) [q3]; rfl)
       refine hK33 _ ?_
       refine .c (t := decide (0 < sg3 C * sg3 D)) (fun h159 => ?_) (fun h159 => ?_)
       ·try simp only[dc]at h159
        have hw : noWay u v = true := by rw [hnw, q3]; simp [h159]
        refine .sq fun K34 hK34 => ?_
        refine .region ?_
        refine .k 1 ?_
        refine AOPS.fcall (none_fc) rfl rfl (by simp; rfl) hbNone (by simp (disch := first|omega|(simp only[ln];omega)) [idf_Wd']) (by simp (disch := first|omega|(simp only[ln];omega))) (by simp) ?_
        simp only [puts_some, updo]
        refine .e ?_
        refine hK34 _ ?_
        refine .ret ?_
        exact hK _ _ _ _ trivial ((Fin.m).cast (by rw [hm', if_pos hw]; try rfl))
       ·try simp only[dc]at h159
        have hw : ¬ noWay u v = true := by rw [hnw, q3]; simp; omega
        have b1 : Bg 1 v.a.x := Bg.i64 (by omega) (by omega)
        have b2 : Bg 1 v.a.y := Bg.i64 (by omega) (by omega)
        have b3 : Bg 1 A := Bg.i64 (by omega) (by omega)
        have b4 : Bg 1 (A - B) := Bg.i64 (by omega) (by omega)
        have b5 : Bg 1 (v.b.x - v.a.x) := Bg.i64 (by omega) (by omega)
        have b6 : Bg 1 (v.b.y - v.a.y) := Bg.i64 (by omega) (by omega)
        refine .skip ?_
        refine hK32 _ ?_
        refine .sq fun K35 hK35 => ?_
        refine .region ?_
        refine .kf 3 (whole_fc (A - B) (by omega) (by omega)) hb79 ?_
        refine .e ?_
        refine hK35 _ ?_
        refine .sq fun K36 hK36 => ?_
        refine .d 19 ?_
        refine .k 3 (fun fs37 hfs37 => ?_)
        refine .f (whole_fc v.a.x (by omega) (by omega)) hb79 ?_
        refine .k 1 (fun fs38 hfs38 => ?_)
        refine .f (by_fc b1 b4 (by omega) (by omega)) hb80 ?_
        refine .k 1 (fun fs39 hfs39 => ?_)
        refine .f (whole_fc A (by omega) (by omega)) hb79 ?_
        refine .k 7 (fun fs40 hfs40 => ?_)
        refine .f (whole_fc (v.b.x - v.a.x) (by omega) (by omega)) hb79 ?_
        refine .f (by_fc b3 b5 (by omega) (by omega)) hb80 ?_
        refine .f (plus_fc (b1.mul b4) (b3.mul b5) (by omega) (by omega)) hb83 ?_
        refine .k 1 (fun fs41 hfs41 => ?_)
        refine .r 19 (by simp only[ln, hfs37, hfs38, hfs39, hfs40, hfs41];omega) ?_
        refine hK36 _ ?_
        refine .sq fun K42 hK42 => ?_
        refine .d 19 ?_
        refine .k 3 (fun fs43 hfs43 => ?_)
        refine .f (whole_fc v.a.y (by omega) (by omega)) hb79 ?_
        refine .k 1 (fun fs44 hfs44 => ?_)
        refine .f (by_fc b2 b4 (by omega) (by omega)) hb80 ?_
        refine .k 1 (fun fs45 hfs45 => ?_)
        refine .f (whole_fc A (by omega) (by omega)) hb79 ?_
        refine .k 7 (fun fs46 hfs46 => ?_)
        refine .f (whole_fc (v.b.y - v.a.y) (by omega) (by omega)) hb79 ?_
        refine .f (by_fc b3 b6 (by omega) (by omega)) hb80 ?_
        refine .f (plus_fc (b2.mul b4) (b3.mul b6) (by omega) (by omega)) hb83 ?_
        refine .k 1 (fun fs47 hfs47 => ?_)
        refine .r 19 (by simp only[ln, hfs43, hfs44, hfs45, hfs46, hfs47];omega) ?_
        refine hK42 _ ?_
        refine .sq fun K48 hK48 => ?_
        refine .region ?_
        refine .kf 4 (spotPoint_fc (j := 3) (v.a.x * (A - B) + A * (v.b.x - v.a.x)) (v.a.y * (A - B) + A * (v.b.y - v.a.y)) (A - B) (((b1.mul b4).add (b3.mul b5)).le (by omega)) (((b2.mul b4).add (b3.mul b6)).le (by omega)) (b4.le (by omega)) (by omega)) hb189 ?_
        refine .e ?_
        refine hK48 _ ?_
        refine .sq fun K49 hK49 => ?_
        refine .old fun hold => ?_
        refine .d 2 ?_
        refine .k 1 (fun fs50 hfs50 => ?_)
        refine DP.runF1q (by simp (disch := first|omega|(simp only[ln];omega)) [runDf.eq_def, runF1, runF2, stepF.eq_def, updo.eq_def, hupo.eq_def, opSto1.eq_def]; rfl) fun fq51 hfq51 => ?_
        simp [qids, asksB, Op.operands, topId] at hfq51
        simp only [updo]
        refine DQ.asg1 _ rfl rfl ?_
        simp only [updo]
        refine DQ.sto1 (m := 2) [1] _ (by simp (disch := first|omega|(simp only[ln];omega)) [runDf.eq_def, runF1, runF2, stepF.eq_def, updo.eq_def, hupo.eq_def, opSto1.eq_def]; rfl) rfl (by simp only[ln, hfs50];omega) (by kernel_rfl) (by intro k f hk hex; simp only [List.mem_cons, List.not_mem_nil, or_false] at hex; rcases hex with rfl <;> (simp [List.getElem?_append, hfs50] at hk; subst hk; refine ⟨?_, by first | omega | (simp; done) | (simp; omega)⟩; simp [qids, asksB, Op.operands, Call.operands, topId, numS, numI, Wd, hfq51]; try omega)) ?_
        try simp only []
        refine DQ.sto1 (m := 2) [] _ (by simp (disch := first|omega|(simp only[ln];omega)) [runDf.eq_def, runF1, runF2, stepF.eq_def, updo.eq_def, hupo.eq_def, opSto1.eq_def]; rfl) rfl (by simp only[ln, hfs50];omega) (by kernel_rfl) (by intro k f hk hex; simp only [List.not_mem_nil] at hex) ?_
        try simp only []
        refine hK49 _ ?_
        refine .ret ?_
        exact hK _ _ _ _ trivial ((Fin.m).cast (by rw [hm', if_neg hw, eX, eY, eW]; try rfl))
      ·refine .region ?_
       refine .kf 1 (signI_fc A) hb88 ?_ (by simp (disch := first|omega|(simp only[ln];omega)) [List.take_succ_cons, List.take_zero, q3]; rfl) (ha := by simp (disch := first|omega|(simp only[ln];omega)) [idf_Wd', q3])
       refine .kf 1 (signI_fc B) hb88 ?_ (by simp (disch := first|omega|(simp only[ln];omega)) [List.take_succ_cons, List.take_zero, q3]; rfl) (ha := by simp (disch := first|omega|(simp only[ln];omega)) [idf_Wd', q3])
       refine .e ?_ (by simp (disch := first|omega|(simp only[ln];omega)) [q3]; rfl)
       refine hK33 _ ?_
       refine .c (fun h159 => ?_) (fun h159 => ?_)
       ·try simp only[dc]at h159
        have hw : noWay u v = true := by rw [hnw, q3]; rfl
        refine .sq fun K52 hK52 => ?_
        refine .region ?_
        refine .k 1 ?_
        refine AOPS.fcall (none_fc) rfl rfl (by simp; rfl) hbNone (by simp (disch := first|omega|(simp only[ln];omega)) [idf_Wd']) (by simp (disch := first|omega|(simp only[ln];omega))) (by simp) ?_
        simp only [puts_some, updo]
        refine .e ?_
        refine hK52 _ ?_
        refine .ret ?_
        exact hK _ _ _ _ trivial ((Fin.m).cast (by rw [hm', if_pos hw]; try rfl))
       ·simp at h159
   ·have c1 : (A == 0) = false := by simp [hA0]
    have hm' := hm
    rw [if_neg (fun h => hA0 h.1)] at hm'
    refine .r ?_ (by simp (disch := first|omega|(simp only[ln];omega)) [c1]; rfl)
    refine hK10 _ ?_
    refine .c (fun h92 => ?_) (fun h92 => ?_)
    ·simp at h92
    ·try simp only[dc]at h92
     refine .skip ?_
     refine hK9 _ ?_
     refine .sq fun K53 hK53 => ?_
     refine .d 14 ?_
     refine .k 6 (fun fs54 hfs54 => ?_)
     refine .f cC hb188 ?_
     refine .k 6 (fun fs55 hfs55 => ?_)
     refine .f cD hb188 ?_
     refine .r 14 (by simp only[ln, hfs54, hfs55];omega) ?_
     refine hK53 _ ?_
     refine .sq fun K56 hK56 => ?_
     refine .sq fun K57 hK57 => ?_
     cases q3 : decide (0 < sg3 A * sg3 B)
     ·refine .region ?_
      refine .kf 1 (signI_fc A) hb88 ?_ (by simp (disch := first|omega|(simp only[ln];omega)) [List.take_succ_cons, List.take_zero, q3]; rfl) (ha := by simp (disch := first|omega|(simp only[ln];omega)) [idf_Wd', q3])
      refine .kf 1 (signI_fc B) hb88 ?_ (by simp (disch := first|omega|(simp only[ln];omega)) [List.take_succ_cons, List.take_zero, q3]; rfl) (ha := by simp (disch := first|omega|(simp only[ln];omega)) [idf_Wd', q3])
      refine .kf 4 (signI_fc C) hb88 ?_ (by simp (disch := first|omega|(simp only[ln];omega)) [List.take_succ_cons, List.take_zero, q3]; rfl) (ha := by simp (disch := first|omega|(simp only[ln];omega)) [idf_Wd', q3])
      refine .kf 1 (signI_fc D) hb88 ?_ (by simp (disch := first|omega|(simp only[ln];omega)) [List.take_succ_cons, List.take_zero, q3]; rfl) (ha := by simp (disch := first|omega|(simp only[ln];omega)) [idf_Wd', q3])
      refine .e ?_ (by simp (disch := first|omega|(simp only[ln];omega)) [q3]; rfl)
      refine hK57 _ ?_
      refine .c (t := decide (0 < sg3 C * sg3 D)) (fun h159 => ?_) (fun h159 => ?_)
      ·try simp only[dc]at h159
       have hw : noWay u v = true := by rw [hnw, q3]; simp [h159]
       refine .sq fun K58 hK58 => ?_
       refine .region ?_
       refine .k 1 ?_
       refine AOPS.fcall (none_fc) rfl rfl (by simp; rfl) hbNone (by simp (disch := first|omega|(simp only[ln];omega)) [idf_Wd']) (by simp (disch := first|omega|(simp only[ln];omega))) (by simp) ?_
       simp only [puts_some, updo]
       refine .e ?_
       refine hK58 _ ?_
       refine .ret ?_
       exact hK _ _ _ _ trivial ((Fin.m).cast (by rw [hm', if_pos hw]; try rfl))
      ·try simp only[dc]at h159
       have hw : ¬ noWay u v = true := by rw [hnw, q3]; simp; omega
       have b1 : Bg 1 v.a.x := Bg.i64 (by omega) (by omega)
       have b2 : Bg 1 v.a.y := Bg.i64 (by omega) (by omega)
       have b3 : Bg 1 A := Bg.i64 (by omega) (by omega)
       have b4 : Bg 1 (A - B) := Bg.i64 (by omega) (by omega)
       have b5 : Bg 1 (v.b.x - v.a.x) := Bg.i64 (by omega) (by omega)
       have b6 : Bg 1 (v.b.y - v.a.y) := Bg.i64 (by omega) (by omega)
       refine .skip ?_
       refine hK56 _ ?_
       refine .sq fun K59 hK59 => ?_
       refine .region ?_
       refine .kf 3 (whole_fc (A - B) (by omega) (by omega)) hb79 ?_
       refine .e ?_
       refine hK59 _ ?_
       refine .sq fun K60 hK60 => ?_
       refine .d 19 ?_
       refine .k 3 (fun fs61 hfs61 => ?_)
       refine .f (whole_fc v.a.x (by omega) (by omega)) hb79 ?_
       refine .k 1 (fun fs62 hfs62 => ?_)
       refine .f (by_fc b1 b4 (by omega) (by omega)) hb80 ?_
       refine .k 1 (fun fs63 hfs63 => ?_)
       refine .f (whole_fc A (by omega) (by omega)) hb79 ?_
       refine .k 7 (fun fs64 hfs64 => ?_)
       refine .f (whole_fc (v.b.x - v.a.x) (by omega) (by omega)) hb79 ?_
       refine .f (by_fc b3 b5 (by omega) (by omega)) hb80 ?_
       refine .f (plus_fc (b1.mul b4) (b3.mul b5) (by omega) (by omega)) hb83 ?_
       refine .k 1 (fun fs65 hfs65 => ?_)
       refine .r 19 (by simp only[ln, hfs61, hfs62, hfs63, hfs64, hfs65];omega) ?_
       refine hK60 _ ?_
       refine .sq fun K66 hK66 => ?_
       refine .d 19 ?_
       refine .k 3 (fun fs67 hfs67 => ?_)
       refine .f (whole_fc v.a.y (by omega) (by omega)) hb79 ?_
       refine .k 1 (fun fs68 hfs68 => ?_)
       refine .f (by_fc b2 b4 (by omega) (by omega)) hb80 ?_
       refine .k 1 (fun fs69 hfs69 => ?_)
       refine .f (whole_fc A (by omega) (by omega)) hb79 ?_
       refine .k 7 (fun fs70 hfs70 => ?_)
       refine .f (whole_fc (v.b.y - v.a.y) (by omega) (by omega)) hb79 ?_
       refine .f (by_fc b3 b6 (by omega) (by omega)) hb80 ?_
       refine .f (plus_fc (b2.mul b4) (b3.mul b6) (by omega) (by omega)) hb83 ?_
       refine .k 1 (fun fs71 hfs71 => ?_)
       refine .r 19 (by simp only[ln, hfs67, hfs68, hfs69, hfs70, hfs71];omega) ?_
       refine hK66 _ ?_
       refine .sq fun K72 hK72 => ?_
       refine .region ?_
       refine .kf 4 (spotPoint_fc (j := 3) (v.a.x * (A - B) + A * (v.b.x - v.a.x)) (v.a.y * (A - B) + A * (v.b.y - v.a.y)) (A - B) (((b1.mul b4).add (b3.mul b5)).le (by omega)) (((b2.mul b4).add (b3.mul b6)).le (by omega)) (b4.le (by omega)) (by omega)) hb189 ?_
       refine .e ?_
       refine hK72 _ ?_
       refine .sq fun K73 hK73 => ?_
       refine .old fun hold => ?_
       refine .d 2 ?_
       refine .k 1 (fun fs74 hfs74 => ?_)
       refine DP.runF1q (by simp (disch := first|omega|(simp only[ln];omega)) [runDf.eq_def, runF1, runF2, stepF.eq_def, updo.eq_def, hupo.eq_def, opSto1.eq_def]; rfl) fun fq75 hfq75 => ?_
       simp [qids, asksB, Op.operands, topId] at hfq75
       simp only [updo]
       refine DQ.asg1 _ rfl rfl ?_
       simp only [updo]
       refine DQ.sto1 (m := 2) [1] _ (by simp (disch := first|omega|(simp only[ln];omega)) [runDf.eq_def, runF1, runF2, stepF.eq_def, updo.eq_def, hupo.eq_def, opSto1.eq_def]; rfl) rfl (by simp only[ln, hfs74];omega) (by kernel_rfl) (by intro k f hk hex; simp only [List.mem_cons, List.not_mem_nil, or_false] at hex; rcases hex with rfl <;> (simp [List.getElem?_append, hfs74] at hk; subst hk; refine ⟨?_, by first | omega | (simp; done) | (simp; omega)⟩; simp [qids, asksB, Op.operands, Call.operands, topId, numS, numI, Wd, hfq75]; try omega)) ?_
       try simp only []
       refine DQ.sto1 (m := 2) [] _ (by simp (disch := first|omega|(simp only[ln];omega)) [runDf.eq_def, runF1, runF2, stepF.eq_def, updo.eq_def, hupo.eq_def, opSto1.eq_def]; rfl) rfl (by simp only[ln, hfs74];omega) (by kernel_rfl) (by intro k f hk hex; simp only [List.not_mem_nil] at hex) ?_
       try simp only []
       refine hK73 _ ?_
       refine .ret ?_
       exact hK _ _ _ _ trivial ((Fin.m).cast (by rw [hm', if_neg hw, eX, eY, eW]; try rfl))
     ·refine .region ?_
      refine .kf 1 (signI_fc A) hb88 ?_ (by simp (disch := first|omega|(simp only[ln];omega)) [List.take_succ_cons, List.take_zero, q3]; rfl) (ha := by simp (disch := first|omega|(simp only[ln];omega)) [idf_Wd', q3])
      refine .kf 1 (signI_fc B) hb88 ?_ (by simp (disch := first|omega|(simp only[ln];omega)) [List.take_succ_cons, List.take_zero, q3]; rfl) (ha := by simp (disch := first|omega|(simp only[ln];omega)) [idf_Wd', q3])
      refine .e ?_ (by simp (disch := first|omega|(simp only[ln];omega)) [q3]; rfl)
      refine hK57 _ ?_
      refine .c (fun h159 => ?_) (fun h159 => ?_)
      ·try simp only[dc]at h159
       have hw : noWay u v = true := by rw [hnw, q3]; rfl
       refine .sq fun K76 hK76 => ?_
       refine .region ?_
       refine .k 1 ?_
       refine AOPS.fcall (none_fc) rfl rfl (by simp; rfl) hbNone (by simp (disch := first|omega|(simp only[ln];omega)) [idf_Wd']) (by simp (disch := first|omega|(simp only[ln];omega))) (by simp) ?_
       simp only [puts_some, updo]
       refine .e ?_
       refine hK76 _ ?_
       refine .ret ?_
       exact hK _ _ _ _ trivial ((Fin.m).cast (by rw [hm', if_pos hw]; try rfl))
      ·simp at h159
 ·refine .r ?_ (by simp (disch := first|omega|(simp only[ln];omega)) [mx_fold, mn_fold, q1]; rfl)
  refine hK4 _ ?_
  refine .c (fun h67 => ?_) (fun h67 => ?_)
  ·try simp only[dc]at h67
   have hm := hmt (by rw [hap, q1]; rfl)
   refine .sq fun K77 hK77 => ?_
   refine .region ?_
   refine .k 1 ?_
   refine AOPS.fcall (none_fc) rfl rfl (by simp; rfl) hbNone (by simp (disch := first|omega|(simp only[ln];omega)) [idf_Wd']) (by simp (disch := first|omega|(simp only[ln];omega))) (by simp) ?_
   simp only [puts_some, updo]
   refine .e ?_
   refine hK77 _ ?_
   refine .ret ?_
   exact hK _ _ _ _ trivial ((Fin.m).cast (by rw [hm]; try rfl))
  ·simp at h67
end
section
attribute [local simp] idf_numI cells_numI numI_fold Sp.av Sp.cells Sg.av Sg.cells
end

end Go.Proofs.YtgeecahbahgjbaaGreat

/- Walks: where segments meet, by the reference; FnExactMeet. -/
namespace Go.Proofs.YtgeecahbahgjbaaGreat
open Go Go.RowKit
set_option linter.unusedSimpArgs false
set_option linter.unusedVariables false
set_option maxRecDepth 100000
attribute [local simp] szT2 byT2 agT2 unT2 zoT2 szT4 byT4 agT4 unT4 zoT4 szT38 byT38 agT38 flT38 fdT38_0 fdT38_1 zoT38 szT40 byT40 agT40 flT40 fdT40_0 fdT40_1 zoT40 szT125 byT125 agT125 elT125 unT125 zoT125 szT127 byT127 agT127 flT127 fdT127_0 fdT127_1 zoT127 szT129 byT129 agT129 flT129 fdT129_0 fdT129_1 fdT129_2 zoT129

def z3 : AV := .agg [.bool false, .nsl, .bool false, .nsl, .bool false, .nsl]
def nX (u v : Sg) : Int := nrm (denS u v) (wayX2 u v) / gcd3 (wayX2 u v) (wayY2 u v) (denS u v)
def nY (u v : Sg) : Int := nrm (denS u v) (wayY2 u v) / gcd3 (wayX2 u v) (wayY2 u v) (denS u v)
def nW (u v : Sg) : Int := nrm (denS u v) (denS u v) / gcd3 (wayX2 u v) (wayY2 u v) (denS u v)
def l4V (u v : Sg) : AV := if crs u.a u.b v.a = 0 ∧ crs u.a u.b v.b = 0 then (if lsS (highS u v) (lowS u v) = true then .tup [.int .i64 0, z3, z3] else if lowS u v = highS u v then .tup [.int .i64 1, l3A (lowS u v).x (lowS u v).y 1, z3] else .tup [.int .i64 2, l3A (lowS u v).x (lowS u v).y 1, l3A (highS u v).x (highS u v).y 1])
  else if noWay u v = true then .tup [.int .i64 0, z3, z3] else .tup [.int .i64 1, l3A (nX u v) (nY u v) (nW u v), z3]
theorem idf_l4V (u v : Sg) : idf (l4V u v) := by
  unfold l4V; repeat' split
  all_goals simp [idf, idfL, z3, l3A, l3C, idf_Wd']
theorem sg0 {z : Int} (h : z = 0) : (sg3 z == 0) = true := by simp [sg3_zero, h]
theorem sg1 {z : Int} (h : ¬ z = 0) : (sg3 z == 0) = false := by simp [sg3_zero, h]
theorem den_ne {u v : Sg} (gu : u.good = true) (gv : v.good = true) (h0 : ¬ (crs u.a u.b v.a = 0 ∧ crs u.a u.b v.b = 0)) (h : ¬ noWay u v = true) : denS u v ≠ 0 := by
  have := (way_apart (good_ls gu) (good_ls gv) h0 (by simpa using h)).1
  rw [den_w]; omega
theorem low_good {u v : Sg} (gu : u.good = true) (gv : v.good = true) : (lowS u v).good = true := by unfold lowS; split; exact good_a gv; exact good_a gu
theorem high_good {u v : Sg} (gu : u.good = true) (gv : v.good = true) : (highS u v).good = true := by unfold highS; split; exact good_b gv; exact good_b gu

theorem l1In_fc (n a b : Int) : FC Tryz.prog 136 [.int .i64 n, .int .i64 a, .int .i64 b] (.bool (decide (a ≤ n) && decide (n ≤ b))) := by
 refine .b Tryz.func136 15 (fun nx K hK => ?_)
 refine .q ?_
 refine .sq fun K2 hK2 => ?_
 cases h : decide (a ≤ n)
 ·refine .r ?_ (by simp (disch := first|omega|(simp only[ln];omega)) [h]; rfl)
  refine hK2 _ ?_
  refine .ret ?_
  exact hK _ _ _ _ trivial ((Fin.m).cast (by rw [h]; rfl))
 ·refine .r ?_ (by simp (disch := first|omega|(simp only[ln];omega)) [h]; rfl)
  refine hK2 _ ?_
  refine .ret ?_
  exact hK _ _ _ _ trivial ((Fin.m).cast (by rw [h]; rfl))
theorem l1InM_fc (n : Int) : FC Tryz.prog 136 [.int .i64 n, .int .i64 (-1000000), .int .i64 1000000] (.bool (inM n)) := l1In_fc n (-1000000) 1000000
section
attribute [local simp] Sp.av Sp.cells Sg.av Sg.cells
theorem spotOkS_fc (p : Sp) : FC Tryz.prog 105 [p.av] (.bool p.good) := by
 refine .b Tryz.func105 11 (fun nx K hK => ?_) (hi := by simp [idfL, idf, Sp.av, Sp.cells, Sg.av, Sg.cells])
 refine .q ?_
 refine .sq fun K2 hK2 => ?_
 cases hx : inM p.x
 ·refine .region ?_
  refine .kf 2 (l1InM_fc p.x) hb136 ?_ (by simp (disch := first|omega|(simp only[ln];omega)) [List.take_succ_cons, List.take_zero, hx]; rfl) (ha := by simp (disch := first|omega|(simp only[ln];omega)) [idf_Wd', hx])
  refine .e ?_ (by simp (disch := first|omega|(simp only[ln];omega)) [hx]; rfl)
  refine hK2 _ ?_
  refine .ret ?_
  exact hK _ _ _ _ trivial ((Fin.m).cast (by unfold Sp.good; rw [hx]; rfl))
 ·refine .region ?_
  refine .kf 2 (l1InM_fc p.x) hb136 ?_ (by simp (disch := first|omega|(simp only[ln];omega)) [List.take_succ_cons, List.take_zero, hx]; rfl) (ha := by simp (disch := first|omega|(simp only[ln];omega)) [idf_Wd', hx])
  refine .kf 3 (l1InM_fc p.y) hb136 ?_ (by simp (disch := first|omega|(simp only[ln];omega)) [List.take_succ_cons, List.take_zero, hx]; rfl) (ha := by simp (disch := first|omega|(simp only[ln];omega)) [idf_Wd', hx])
  refine .e ?_ (by simp (disch := first|omega|(simp only[ln];omega)) [hx]; rfl)
  refine hK2 _ ?_
  refine .ret ?_
  exact hK _ _ _ _ trivial ((Fin.m).cast (by unfold Sp.good; rw [hx]; rfl))
theorem l4Less_fc (p q : Sp) : FC Tryz.prog 191 [p.av, q.av] (.bool (lsS p q)) := by
 refine .b Tryz.func191 24 (fun nx K hK => ?_) (hi := by simp [idfL, idf, Sp.av, Sp.cells, Sg.av, Sg.cells])
 refine .q ?_
 refine .sq fun K2 hK2 => ?_
 by_cases q1 : p.x < q.x
 ·have hl : lsS p q = true := by simp [lsS, q1]
  have c1 : decide (p.x < q.x) = true := by simp [q1]
  refine .r ?_ (by simp (disch := first|omega|(simp only[ln];omega)) [c1]; rfl)
  refine hK2 _ ?_
  refine .ret ?_
  exact hK _ _ _ _ trivial ((Fin.m).cast (by rw [hl]; try rfl))
 ·have c1 : decide (p.x < q.x) = false := by simp; omega
  by_cases q2 : p.x = q.x
  ·have c2 : (p.x == q.x) = true := by simp [q2]
   have hl : lsS p q = decide (p.y < q.y) := by simp [lsS, q2]
   refine .r ?_ (by simp (disch := first|omega|(simp only[ln];omega)) [c1, c2]; rfl)
   refine hK2 _ ?_
   refine .ret ?_
   exact hK _ _ _ _ trivial ((Fin.m).cast (by rw [hl]))
  ·have c2 : (p.x == q.x) = false := by simp [q2]
   have hl : lsS p q = false := by simp [lsS, q2]; omega
   refine .r ?_ (by simp (disch := first|omega|(simp only[ln];omega)) [c1, c2]; rfl)
   refine hK2 _ ?_
   refine .ret ?_
   exact hK _ _ _ _ trivial ((Fin.m).cast (by rw [hl]; try rfl))
set_option maxHeartbeats 1000000 in
theorem l4Turn_fc (a b c : Sp) (ha : a.good = true) (hb : b.good = true) (hc : c.good = true) : FC Tryz.prog 190 [a.av, b.av, c.av] (.int .i64 (sg3 (crs a b c))) := by
 have pa := Sp.b ha
 have pb := Sp.b hb
 have pc := Sp.b hc
 have m1 := mul_b (u := b.x - a.x) (v := c.y - a.y) (m := 2000000) (n := 2000000) (by omega) (by omega) (by omega) (by omega) (by omega)
 have m2 := mul_b (u := b.y - a.y) (v := c.x - a.x) (m := 2000000) (n := 2000000) (by omega) (by omega) (by omega) (by omega) (by omega)
 have e : (b.x - a.x) * (c.y - a.y) - (b.y - a.y) * (c.x - a.x) = crs a b c := rfl
 refine .b Tryz.func190 35 (fun nx K hK => ?_) (hi := by simp [idfL, idf, Sp.av, Sp.cells, Sg.av, Sg.cells])
 refine .q ?_
 refine .q ?_
 refine .sq fun K3 hK3 => ?_
 refine .q ?_ (by simp (disch := first|omega|(simp only[ln];omega)) [e]; rfl)
 refine .c (t := decide (crs a b c < 0)) (fun h32 => ?_) (fun h32 => ?_)
 ·try simp only[dc]at h32
  refine .q ?_
  refine .ret ?_
  exact hK _ _ _ _ trivial ((Fin.m).cast (by unfold sg3; rw [if_pos h32]))
 ·try simp only[dc]at h32
  refine .skip ?_
  refine hK3 _ ?_
  refine .sq fun K6 hK6 => ?_
  refine .q ?_ (by simp (disch := first|omega|(simp only[ln];omega)) [e]; rfl)
  refine .c (t := decide (0 < crs a b c)) (fun h34 => ?_) (fun h34 => ?_)
  ·try simp only[dc]at h34
   refine .q ?_
   refine .ret ?_
   exact hK _ _ _ _ trivial ((Fin.m).cast (by unfold sg3; rw [if_neg h32, if_pos h34]))
  ·try simp only[dc]at h34
   refine .skip ?_
   refine hK6 _ ?_
   refine .q ?_
   refine .ret ?_
   exact hK _ _ _ _ trivial ((Fin.m).cast (by unfold sg3; rw [if_neg h32, if_neg h34]))
end
section
attribute [local simp] idf_numS cells_numS numS_fold Sp.av Sp.cells Sg.av Sg.cells l3A l3C
set_option maxHeartbeats 8000000 in
theorem l4Meet_fc (u v : Sg) (gu : u.good = true) (gv : v.good = true) : FC Tryz.prog 106 [u.av, v.av] (l4V u v) := by
 have ua := good_a gu
 have ub := good_b gu
 have va := good_a gv
 have vb := good_b gv
 have pua := Sp.b ua
 have pub := Sp.b ub
 have pva := Sp.b va
 have pvb := Sp.b vb
 have cA := l4Turn_fc u.a u.b v.a ua ub va
 have cB := l4Turn_fc u.a u.b v.b ua ub vb
 have cC := l4Turn_fc v.a v.b u.a va vb ua
 have cD := l4Turn_fc v.a v.b u.b va vb ub
 have hnw : noWay u v = (decide (0 < sg3 (crs u.a u.b v.a) * sg3 (crs u.a u.b v.b)) || decide (0 < sg3 (crs v.a v.b u.a) * sg3 (crs v.a v.b u.b))) := rfl
 have sAB := mul_sg (crs u.a u.b v.a) (crs u.a u.b v.b)
 have sCD := mul_sg (crs v.a v.b u.a) (crs v.a v.b u.b)
 obtain ⟨A, hA⟩ : ∃ A, crs u.a u.b v.a = A := ⟨_, rfl⟩
 obtain ⟨B, hB⟩ : ∃ B, crs u.a u.b v.b = B := ⟨_, rfl⟩
 rw [hA] at cA sAB hnw
 rw [hB] at cB sAB hnw
 generalize crs v.a v.b u.a = C at *
 generalize crs v.a v.b u.b = D at *
 refine .b Tryz.func106 181 (fun nx K hK => ?_) (hi := by simp [idfL, idf, Sp.av, Sp.cells, Sg.av, Sg.cells]) (hr := idf_l4V u v)
 refine .q ?_
 refine .sq fun K2 hK2 => ?_
 refine .region ?_
 refine .kf 6 cA hb190 ?_
 refine .e ?_
 refine hK2 _ ?_
 refine .sq fun K3 hK3 => ?_
 refine .region ?_
 refine .kf 6 cB hb190 ?_
 refine .e ?_
 refine hK3 _ ?_
 refine .sq fun K4 hK4 => ?_
 refine .region ?_
 refine .kf 6 cC hb190 ?_
 refine .e ?_
 refine hK4 _ ?_
 refine .sq fun K5 hK5 => ?_
 refine .region ?_
 refine .kf 6 cD hb190 ?_
 refine .e ?_
 refine hK5 _ ?_
 refine .sq fun K6 hK6 => ?_
 refine .sq fun K7 hK7 => ?_
 by_cases hA0 : A = 0
 ·have c1 := sg0 hA0
  by_cases hB0 : B = 0
  ·have c2 := sg0 hB0
   have h0 : A = 0 ∧ B = 0 := ⟨hA0, hB0⟩
   refine .r ?_ (by simp (disch := first|omega|(simp only[ln];omega)) [c1, c2]; rfl)
   refine hK7 _ ?_
   refine .c (fun h54 => ?_) (fun h54 => ?_)
   ·try simp only[dc]at h54
    refine .q ?_
    refine .sq fun K9 hK9 => ?_
    have J9 : ∀ s : St, (∃ lo : Sp, lo = lowS u v ∧ s.env 2 = .ptr nx 0 0 ∧ s.env 3 = .ptr (nx + 1) 0 0 ∧ s.env 5 = .ptr (nx + 1 + 1) 0 0 ∧ s.env 6 = .ptr (nx + 1 + 1 + 1) 0 0 ∧ s.env 11 = .ptr (nx + 1 + 1 + 1 + 1) 0 0 ∧ s.heap nx = some (4, [[.int .i64 u.a.x, .int .i64 u.a.y, .int .i64 u.b.x, .int .i64 u.b.y]]) ∧ s.heap (nx + 1) = some (4, [[.int .i64 v.a.x, .int .i64 v.a.y, .int .i64 v.b.x, .int .i64 v.b.y]]) ∧ s.heap (nx + 1 + 1) = some (6, [[.bool false, .nsl, .bool false, .nsl, .bool false, .nsl]]) ∧ s.heap (nx + 1 + 1 + 1) = some (6, [[.bool false, .nsl, .bool false, .nsl, .bool false, .nsl]]) ∧ s.heap (nx + 1 + 1 + 1 + 1) = some (2, [[.int .i64 lo.x, .int .i64 lo.y]]) ∧ (nx + 1 + 1 + 1 + 1) < s.nx ∧ s.nt = 181) → K9 s := by
     rintro ⟨e, H, mm, nt⟩ ⟨lo, hlo, g2, g3, g5, g6, g11, hU, hV, hP, hQ, hL, hm, rfl⟩
     simp only [] at g2 g3 g5 g6 g11 hU hV hP hQ hL hm
     refine hK9 _ ?_
     refine .q ?_ (by simp (disch := first|omega|(simp only[ln];omega)) [g2, g3, g5, g6, g11, hU, hV, hP, hQ, hL]; rfl)
     refine .sq fun K11 hK11 => ?_
     have J11 : ∀ s : St, (∃ (lo hi : Sp) (ib : Nat), lo = lowS u v ∧ hi = highS u v ∧ s.env 2 = .ptr nx 0 0 ∧ s.env 3 = .ptr (nx + 1) 0 0 ∧ s.env 5 = .ptr (nx + 1 + 1) 0 0 ∧ s.env 6 = .ptr (nx + 1 + 1 + 1) 0 0 ∧ s.env 11 = .ptr (nx + 1 + 1 + 1 + 1) 0 0 ∧ s.heap nx = some (4, [[.int .i64 u.a.x, .int .i64 u.a.y, .int .i64 u.b.x, .int .i64 u.b.y]]) ∧ s.heap (nx + 1) = some (4, [[.int .i64 v.a.x, .int .i64 v.a.y, .int .i64 v.b.x, .int .i64 v.b.y]]) ∧ s.heap (nx + 1 + 1) = some (6, [[.bool false, .nsl, .bool false, .nsl, .bool false, .nsl]]) ∧ s.heap (nx + 1 + 1 + 1) = some (6, [[.bool false, .nsl, .bool false, .nsl, .bool false, .nsl]]) ∧ s.heap (nx + 1 + 1 + 1 + 1) = some (2, [[.int .i64 lo.x, .int .i64 lo.y]]) ∧ s.env 12 = .ptr ib 0 0 ∧ s.heap ib = some (2, [[.int .i64 hi.x, .int .i64 hi.y]]) ∧ (nx + 1 + 1 + 1 + 1) < ib ∧ ib < s.nx ∧ s.nt = 181) → K11 s := by
      clear g2 g3 g5 g6 g11 hU hV hP hQ hL hm hlo lo
      rintro ⟨e, H, mm, nt⟩ ⟨lo, hi, ib, hlo, hhi, g2, g3, g5, g6, g11, hU, hV, hP, hQ, hL, g12, hI, hib, hm, rfl⟩
      simp only [] at g2 g3 g5 g6 g11 g12 hU hV hP hQ hL hI hm
      have hli : l4V u v = if lsS hi lo = true then .tup [.int .i64 0, z3, z3] else if lo = hi then .tup [.int .i64 1, l3A lo.x lo.y 1, z3] else .tup [.int .i64 2, l3A lo.x lo.y 1, l3A hi.x hi.y 1] := by unfold l4V; rw [hA, hB, if_pos h0, hlo, hhi]
      have pl := Sp.b (by rw [hlo]; exact low_good gu gv : lo.good = true)
      have ph := Sp.b (by rw [hhi]; exact high_good gu gv : hi.good = true)
      clear hlo hhi
      refine hK11 _ ?_
      refine .sq fun K12 hK12 => ?_
      refine .sq fun K13 hK13 => ?_
      refine .region ?_
      refine .kf 2 (l4Less_fc hi lo) hb191 ?_ (by simp (disch := first|omega|(simp only[ln];omega)) [List.take_succ_cons, List.take_zero, g2, g3, g5, g6, g11, hU, hV, hP, hQ, hL, g12, hI]; rfl) (ha := by simp (disch := first|omega|(simp only[ln];omega)) [idf_Wd', g2, g3, g5, g6, g11, hU, hV, hP, hQ, hL, g12, hI])
      refine .nil ?_
      refine hK13 _ ?_
      refine .c (t := lsS hi lo) (fun h73 => ?_) (fun h73 => ?_)
      ·try simp only[dc]at h73
       refine .q ?_ (by simp (disch := first|omega|(simp only[ln];omega)) [g2, g3, g5, g6, g11, hU, hV, hP, hQ, hL]; rfl)
       refine .ret ?_
       exact hK _ _ _ _ trivial ((Fin.mk (by simp (disch := omega) [aRes, aResL, aRes1, g5, g6]; rfl)).cast (by rw [hli, if_pos h73]; rfl))
      ·try simp only[dc]at h73
       refine .skip ?_
       refine hK12 _ ?_
       refine .sq fun K15 hK15 => ?_
       refine .q ?_ (by simp (disch := first|omega|(simp only[ln];omega)) [g2, g3, g5, g6, g11, hU, hV, hP, hQ, hL, g12, hI, eqW2]; rfl)
       refine .c (t := decide (lo = hi)) (fun h78 => ?_) (fun h78 => ?_)
       ·try simp only[dc]at h78
        refine .sq fun K17 hK17 => ?_
        refine .region ?_
        refine .kf 1 (l3Spot_fc lo.x lo.y (by omega) (by omega) (by omega) (by omega)) hb93 ?_ (by simp (disch := first|omega|(simp only[ln];omega)) [List.take_succ_cons, List.take_zero, g2, g3, g5, g6, g11, hU, hV, hP, hQ, hL]; rfl) (ha := by simp (disch := first|omega|(simp only[ln];omega)) [idf_Wd', g2, g3, g5, g6, g11, hU, hV, hP, hQ, hL])
        refine .e ?_ (by simp (disch := first|omega|(simp only[ln];omega)) [g2, g3, g5, g6, g11, hU, hV, hP, hQ, hL]; rfl)
        refine hK17 _ ?_
        refine .ret ?_
        exact hK _ _ _ _ trivial ((Fin.mk (by simp (disch := omega) [aRes, aResL, aRes1, g5, g6]; rfl)).cast (by rw [hli, if_neg (by rw [h73]; simp), if_pos h78]; rfl))
       ·try simp only[dc]at h78
        refine .skip ?_
        refine hK15 _ ?_
        refine .sq fun K18 hK18 => ?_
        refine .old fun hold => ?_
        refine .d 4 ?_
        refine .k 1 (fun fs19 hfs19 => ?_) (by simp (disch := first|omega|(simp only[ln];omega)) [runDf.eq_def, runF1, runF2, stepF.eq_def, updo.eq_def, hupo.eq_def, opSto1.eq_def, List.take_succ_cons, List.take_zero, g2, g3, g5, g6, g11, hU, hV, hP, hQ, hL, g12, hI]; rfl)
        refine .f (l3Spot_fc lo.x lo.y (by omega) (by omega) (by omega) (by omega)) hb93 ?_ (ha := by simp (disch := first|omega|(simp only[ln];omega)) [idf_Wd', g2, g3, g5, g6, g11, hU, hV, hP, hQ, hL, g12, hI])
        refine DP.runF1q (by simp (disch := first|omega|(simp only[ln];omega)) [runDf.eq_def, runF1, runF2, stepF.eq_def, updo.eq_def, hupo.eq_def, opSto1.eq_def, g2, g3, g5, g6, g11, hU, hV, hP, hQ, hL, g12, hI]; rfl) fun fq20 hfq20 => ?_
        simp [qids, asksB, Op.operands, topId] at hfq20
        simp only [updo]
        refine .f (l3Spot_fc hi.x hi.y (by omega) (by omega) (by omega) (by omega)) hb93 ?_ (ha := by simp (disch := first|omega|(simp only[ln];omega)) [idf_Wd', g2, g3, g5, g6, g11, hU, hV, hP, hQ, hL, g12, hI])
        refine DQ.asg1 _ rfl rfl ?_
        simp only [updo]
        refine DQ.sto1 (m := 4) [2, 3] _ (by simp (disch := first|omega|(simp only[ln];omega)) [runDf.eq_def, runF1, runF2, stepF.eq_def, updo.eq_def, hupo.eq_def, opSto1.eq_def, g2, g3, g5, g6, g11, hU, hV, hP, hQ, hL, g12, hI]; rfl) rfl (by simp only[ln, hfs19];omega) (by kernel_rfl) (by intro k f hk hex; simp only [List.mem_cons, List.not_mem_nil, or_false] at hex; rcases hex with rfl | rfl <;> (simp [List.getElem?_append, hfs19] at hk; subst hk; refine ⟨?_, by first | omega | (simp; done) | (simp; omega)⟩; simp [qids, asksB, Op.operands, Call.operands, topId, numS, numI, Wd, hfq20, g2, g3, g5, g6, g11, g12]; try omega)) ?_
        try simp only []
        refine DQ.sto1 (m := 4) [] _ (by simp (disch := first|omega|(simp only[ln];omega)) [runDf.eq_def, runF1, runF2, stepF.eq_def, updo.eq_def, hupo.eq_def, opSto1.eq_def, g2, g3, g5, g6, g11, hU, hV, hP, hQ, hL, g12, hI]; rfl) rfl (by simp only[ln, hfs19];omega) (by kernel_rfl) (by intro k f hk hex; simp only [List.not_mem_nil] at hex) ?_
        try simp only []
        refine hK18 _ ?_
        refine .ret ?_
        exact hK _ _ _ _ trivial ((Fin.mk (by simp (disch := omega) [aRes, aResL, aRes1, g5, g6]; rfl)).cast (by rw [hli, if_neg (by rw [h73]; simp), if_neg h78]; rfl))
     refine .sq fun K21 hK21 => ?_
     refine .region ?_
     refine .kf 3 (l4Less_fc v.b u.b) hb191 ?_ (by simp (disch := first|omega|(simp only[ln];omega)) [List.take_succ_cons, List.take_zero, g2, g3, g5, g6, g11, hU, hV, hP, hQ, hL]; rfl) (ha := by simp (disch := first|omega|(simp only[ln];omega)) [idf_Wd', g2, g3, g5, g6, g11, hU, hV, hP, hQ, hL])
     refine .nil ?_
     refine hK21 _ ?_
     refine .c (t := lsS v.b u.b) (fun h68 => ?_) (fun h68 => ?_)
     ·try simp only[dc]at h68
      refine .r ?_ (by simp (disch := first|omega|(simp only[ln];omega)) [g2, g3, g5, g6, g11, hU, hV, hP, hQ, hL]; rfl)
      refine J11 _ ?_
      exact ⟨lo, v.b, mm, hlo, by unfold highS; rw [if_pos h68], by simp [g2, g3, g5, g6, g11], by simp [g2, g3, g5, g6, g11], by simp [g2, g3, g5, g6, g11], by simp [g2, g3, g5, g6, g11], by simp [g2, g3, g5, g6, g11], by simp (disch := omega) [hU, hV, hP, hQ, hL], by simp (disch := omega) [hU, hV, hP, hQ, hL], by simp (disch := omega) [hU, hV, hP, hQ, hL], by simp (disch := omega) [hU, hV, hP, hQ, hL], by simp (disch := omega) [hU, hV, hP, hQ, hL], by simp, by simp (disch := omega), by omega, by first | omega | (simp; done) | (simp; omega), rfl⟩
     ·try simp only[dc]at h68
      refine .skip ?_
      refine J11 _ ?_
      exact ⟨lo, u.b, mm, hlo, by unfold highS; rw [h68]; rfl, by simp [g2, g3, g5, g6, g11], by simp [g2, g3, g5, g6, g11], by simp [g2, g3, g5, g6, g11], by simp [g2, g3, g5, g6, g11], by simp [g2, g3, g5, g6, g11], by simp (disch := omega) [hU, hV, hP, hQ, hL], by simp (disch := omega) [hU, hV, hP, hQ, hL], by simp (disch := omega) [hU, hV, hP, hQ, hL], by simp (disch := omega) [hU, hV, hP, hQ, hL], by simp (disch := omega) [hU, hV, hP, hQ, hL], by simp, by simp (disch := omega), by omega, by first | omega | (simp; done) | (simp; omega), rfl⟩
    refine .sq fun K22 hK22 => ?_
    refine .region ?_
    refine .kf 3 (l4Less_fc u.a v.a) hb191 ?_
    refine .nil ?_
    refine hK22 _ ?_
    refine .c (t := lsS u.a v.a) (fun h60 => ?_) (fun h60 => ?_)
    ·try simp only[dc]at h60
     refine .r ?_
     refine J9 _ ?_
     exact ⟨v.a, by unfold lowS; rw [if_pos h60], by simp, by simp, by simp, by simp, by simp, by simp (disch := omega), by simp (disch := omega), by simp (disch := omega), by simp (disch := omega), by simp (disch := omega), by first | omega | (simp; done) | (simp; omega), rfl⟩
    ·try simp only[dc]at h60
     refine .skip ?_
     refine J9 _ ?_
     exact ⟨u.a, by unfold lowS; rw [h60]; rfl, by simp, by simp, by simp, by simp, by simp, by simp (disch := omega), by simp (disch := omega), by simp (disch := omega), by simp (disch := omega), by simp (disch := omega), by first | omega | (simp; done) | (simp; omega), rfl⟩
   ·simp at h54
  ·have c2 := sg1 hB0
   have h0 : ¬ (A = 0 ∧ B = 0) := fun h => hB0 h.2
   refine .r ?_ (by simp (disch := first|omega|(simp only[ln];omega)) [c1, c2]; rfl)
   refine hK7 _ ?_
   refine .c (fun h54 => ?_) (fun h54 => ?_)
   ·simp at h54
   ·try simp only[dc]at h54
    refine .skip ?_
    refine hK6 _ ?_
    refine .sq fun K23 hK23 => ?_
    refine .sq fun K24 hK24 => ?_
    cases q3 : decide (0 < sg3 A * sg3 B)
    ·refine .r ?_ (by simp (disch := first|omega|(simp only[ln];omega)) [q3]; rfl)
     refine hK24 _ ?_
     refine .c (t := decide (0 < sg3 C * sg3 D)) (fun h95 => ?_) (fun h95 => ?_)
     ·try simp only[dc]at h95
      have hw : noWay u v = true := by rw [hnw, q3]; simp [h95]
      refine .q ?_
      refine .ret ?_
      exact hK _ _ _ _ trivial ((Fin.m).cast (by unfold l4V; rw [hA, hB, if_neg h0, if_pos hw]; try rfl))
     ·try simp only[dc]at h95
      have hw : ¬ noWay u v = true := by rw [hnw, q3]; simp; omega
      have m1 := mul_b (u := u.b.x - u.a.x) (v := v.b.y - v.a.y) (m := 2000000) (n := 2000000) (by omega) (by omega) (by omega) (by omega) (by omega)
      have m2 := mul_b (u := u.b.y - u.a.y) (v := v.b.x - v.a.x) (m := 2000000) (n := 2000000) (by omega) (by omega) (by omega) (by omega) (by omega)
      have m3 := mul_b (u := v.a.x - u.a.x) (v := v.b.y - v.a.y) (m := 2000000) (n := 2000000) (by omega) (by omega) (by omega) (by omega) (by omega)
      have m4 := mul_b (u := v.a.y - u.a.y) (v := v.b.x - v.a.x) (m := 2000000) (n := 2000000) (by omega) (by omega) (by omega) (by omega) (by omega)
      have hdn := den_ne gu gv (by rw [hA, hB]; exact h0) hw
      have eD : denS u v = (u.b.x - u.a.x) * (v.b.y - v.a.y) - (u.b.y - u.a.y) * (v.b.x - v.a.x) := rfl
      have eN : numT u v = (v.a.x - u.a.x) * (v.b.y - v.a.y) - (v.a.y - u.a.y) * (v.b.x - v.a.x) := rfl
      have b1 : Bg 1 u.a.x := Bg.i64 (by omega) (by omega)
      have b2 : Bg 1 u.a.y := Bg.i64 (by omega) (by omega)
      have b3 : Bg 1 (denS u v) := Bg.i64 (by rw [eD]; omega) (by rw [eD]; omega)
      have b4 : Bg 1 (numT u v) := Bg.i64 (by rw [eN]; omega) (by rw [eN]; omega)
      have b5 : Bg 1 (u.b.x - u.a.x) := Bg.i64 (by omega) (by omega)
      have b6 : Bg 1 (u.b.y - u.a.y) := Bg.i64 (by omega) (by omega)
      have i1 := l1Int_fc (denS u v) (by rw [eD]; omega) (by rw [eD]; omega)
      have i2 := l1Int_fc (numT u v) (by rw [eN]; omega) (by rw [eN]; omega)
      rw [eD] at i1
      rw [eN] at i2
      have x1 := l1Mul_fc b1 b3 (by omega) (by omega)
      have x2 := l1Mul_fc b5 b4 (by omega) (by omega)
      have x3 := l1Add_fc (b1.mul b3) (b5.mul b4) (by omega) (by omega)
      have y1 := l1Mul_fc b2 b3 (by omega) (by omega)
      have y2 := l1Mul_fc b6 b4 (by omega) (by omega)
      have y3 := l1Add_fc (b2.mul b3) (b6.mul b4) (by omega) (by omega)
      have l3 := l3Make_fc (j := 3) (wayX2 u v) (wayY2 u v) (denS u v) hdn (((b1.mul b3).add (b5.mul b4)).le (by omega)) (((b2.mul b3).add (b6.mul b4)).le (by omega)) (b3.le (by omega)) (by omega) (by omega)
      unfold wayX2 wayY2 at l3
      rw [eD] at x1 x3 y1 y3
      rw [eN] at x2 x3 y2 y3
      simp only [eD, eN] at l3
      have eV : l3A (nX u v) (nY u v) (nW u v) = l3A (nX u v) (nY u v) (nW u v) := rfl
      unfold nX nY nW wayX2 wayY2 at eV
      simp only [eD, eN] at eV
      have hl4 : l4V u v = .tup [.int .i64 1, l3A (nX u v) (nY u v) (nW u v), z3] := by unfold l4V; rw [hA, hB, if_neg h0, if_neg hw]
      unfold nX nY nW wayX2 wayY2 at hl4
      simp only [eD, eN] at hl4
      clear b3 b4 eV
      refine .skip ?_
      refine hK23 _ ?_
      refine .q ?_
      refine .q ?_
      refine .q ?_
      refine .q ?_
      refine .sq fun K30 hK30 => ?_
      refine .region ?_
      refine .kf 7 i1 hb180 ?_
      refine .e ?_
      refine hK30 _ ?_
      refine .sq fun K31 hK31 => ?_
      refine .region ?_
      refine .kf 19 i2 hb180 ?_
      refine .e ?_
      refine hK31 _ ?_
      refine .sq fun K32 hK32 => ?_
      refine .d 12 ?_
      refine .k 3 (fun fs33 hfs33 => ?_)
      refine .f (l1Int_fc u.a.x (by omega) (by omega)) hb180 ?_
      refine .k 1 (fun fs34 hfs34 => ?_)
      refine .f x1 hb182 ?_
      refine .k 1 (fun fs35 hfs35 => ?_)
      refine .f (l1Int_fc (u.b.x - u.a.x) (by omega) (by omega)) hb180 ?_
      refine .k 1 (fun fs36 hfs36 => ?_)
      refine .f x2 hb182 ?_
      refine .f x3 hb192 ?_
      refine .k 1 (fun fs37 hfs37 => ?_)
      refine .r 12 (by simp only[ln, hfs33, hfs34, hfs35, hfs36, hfs37];omega) ?_
      refine hK32 _ ?_
      refine .sq fun K38 hK38 => ?_
      refine .d 12 ?_
      refine .k 3 (fun fs39 hfs39 => ?_)
      refine .f (l1Int_fc u.a.y (by omega) (by omega)) hb180 ?_
      refine .k 1 (fun fs40 hfs40 => ?_)
      refine .f y1 hb182 ?_
      refine .k 1 (fun fs41 hfs41 => ?_)
      refine .f (l1Int_fc (u.b.y - u.a.y) (by omega) (by omega)) hb180 ?_
      refine .k 1 (fun fs42 hfs42 => ?_)
      refine .f y2 hb182 ?_
      refine .f y3 hb192 ?_
      refine .k 1 (fun fs43 hfs43 => ?_)
      refine .r 12 (by simp only[ln, hfs39, hfs40, hfs41, hfs42, hfs43];omega) ?_
      refine hK38 _ ?_
      refine .sq fun K44 hK44 => ?_
      refine .region ?_
      refine .kf 3 l3 hb193 ?_
      refine .e ?_
      refine hK44 _ ?_
      refine .ret ?_
      exact hK _ _ _ _ trivial ((Fin.m).cast (by rw [hl4]; rfl))
    ·refine .r ?_ (by simp (disch := first|omega|(simp only[ln];omega)) [q3]; rfl)
     refine hK24 _ ?_
     refine .c (fun h95 => ?_) (fun h95 => ?_)
     ·try simp only[dc]at h95
      have hw : noWay u v = true := by rw [hnw, q3]; rfl
      refine .q ?_
      refine .ret ?_
      exact hK _ _ _ _ trivial ((Fin.m).cast (by unfold l4V; rw [hA, hB, if_neg h0, if_pos hw]; try rfl))
     ·simp at h95
 ·have c1 := sg1 hA0
  have h0 : ¬ (A = 0 ∧ B = 0) := fun h => hA0 h.1
  refine .r ?_ (by simp (disch := first|omega|(simp only[ln];omega)) [c1]; rfl)
  refine hK7 _ ?_
  refine .c (fun h54 => ?_) (fun h54 => ?_)
  ·simp at h54
  ·try simp only[dc]at h54
   refine .skip ?_
   refine hK6 _ ?_
   refine .sq fun K46 hK46 => ?_
   refine .sq fun K47 hK47 => ?_
   cases q3 : decide (0 < sg3 A * sg3 B)
   ·refine .r ?_ (by simp (disch := first|omega|(simp only[ln];omega)) [q3]; rfl)
    refine hK47 _ ?_
    refine .c (t := decide (0 < sg3 C * sg3 D)) (fun h95 => ?_) (fun h95 => ?_)
    ·try simp only[dc]at h95
     have hw : noWay u v = true := by rw [hnw, q3]; simp [h95]
     refine .q ?_
     refine .ret ?_
     exact hK _ _ _ _ trivial ((Fin.m).cast (by unfold l4V; rw [hA, hB, if_neg h0, if_pos hw]; try rfl))
    ·try simp only[dc]at h95
     have hw : ¬ noWay u v = true := by rw [hnw, q3]; simp; omega
     have m1 := mul_b (u := u.b.x - u.a.x) (v := v.b.y - v.a.y) (m := 2000000) (n := 2000000) (by omega) (by omega) (by omega) (by omega) (by omega)
     have m2 := mul_b (u := u.b.y - u.a.y) (v := v.b.x - v.a.x) (m := 2000000) (n := 2000000) (by omega) (by omega) (by omega) (by omega) (by omega)
     have m3 := mul_b (u := v.a.x - u.a.x) (v := v.b.y - v.a.y) (m := 2000000) (n := 2000000) (by omega) (by omega) (by omega) (by omega) (by omega)
     have m4 := mul_b (u := v.a.y - u.a.y) (v := v.b.x - v.a.x) (m := 2000000) (n := 2000000) (by omega) (by omega) (by omega) (by omega) (by omega)
     have hdn := den_ne gu gv (by rw [hA, hB]; exact h0) hw
     have eD : denS u v = (u.b.x - u.a.x) * (v.b.y - v.a.y) - (u.b.y - u.a.y) * (v.b.x - v.a.x) := rfl
     have eN : numT u v = (v.a.x - u.a.x) * (v.b.y - v.a.y) - (v.a.y - u.a.y) * (v.b.x - v.a.x) := rfl
     have b1 : Bg 1 u.a.x := Bg.i64 (by omega) (by omega)
     have b2 : Bg 1 u.a.y := Bg.i64 (by omega) (by omega)
     have b3 : Bg 1 (denS u v) := Bg.i64 (by rw [eD]; omega) (by rw [eD]; omega)
     have b4 : Bg 1 (numT u v) := Bg.i64 (by rw [eN]; omega) (by rw [eN]; omega)
     have b5 : Bg 1 (u.b.x - u.a.x) := Bg.i64 (by omega) (by omega)
     have b6 : Bg 1 (u.b.y - u.a.y) := Bg.i64 (by omega) (by omega)
     have i1 := l1Int_fc (denS u v) (by rw [eD]; omega) (by rw [eD]; omega)
     have i2 := l1Int_fc (numT u v) (by rw [eN]; omega) (by rw [eN]; omega)
     rw [eD] at i1
     rw [eN] at i2
     have x1 := l1Mul_fc b1 b3 (by omega) (by omega)
     have x2 := l1Mul_fc b5 b4 (by omega) (by omega)
     have x3 := l1Add_fc (b1.mul b3) (b5.mul b4) (by omega) (by omega)
     have y1 := l1Mul_fc b2 b3 (by omega) (by omega)
     have y2 := l1Mul_fc b6 b4 (by omega) (by omega)
     have y3 := l1Add_fc (b2.mul b3) (b6.mul b4) (by omega) (by omega)
     have l3 := l3Make_fc (j := 3) (wayX2 u v) (wayY2 u v) (denS u v) hdn (((b1.mul b3).add (b5.mul b4)).le (by omega)) (((b2.mul b3).add (b6.mul b4)).le (by omega)) (b3.le (by omega)) (by omega) (by omega)
     unfold wayX2 wayY2 at l3
     rw [eD] at x1 x3 y1 y3
     rw [eN] at x2 x3 y2 y3
     simp only [eD, eN] at l3
     have eV : l3A (nX u v) (nY u v) (nW u v) = l3A (nX u v) (nY u v) (nW u v) := rfl
     unfold nX nY nW wayX2 wayY2 at eV
     simp only [eD, eN] at eV
     have hl4 : l4V u v = .tup [.int .i64 1, l3A (nX u v) (nY u v) (nW u v), z3] := by unfold l4V; rw [hA, hB, if_neg h0, if_neg hw]
     unfold nX nY nW wayX2 wayY2 at hl4
     simp only [eD, eN] at hl4
     clear b3 b4 eV
     refine .skip ?_
     refine hK46 _ ?_
     refine .q ?_
     refine .q ?_
     refine .q ?_
     refine .q ?_
     refine .sq fun K53 hK53 => ?_
     refine .region ?_
     refine .kf 7 i1 hb180 ?_
     refine .e ?_
     refine hK53 _ ?_
     refine .sq fun K54 hK54 => ?_
     refine .region ?_
     refine .kf 19 i2 hb180 ?_
     refine .e ?_
     refine hK54 _ ?_
     refine .sq fun K55 hK55 => ?_
     refine .d 12 ?_
     refine .k 3 (fun fs56 hfs56 => ?_)
     refine .f (l1Int_fc u.a.x (by omega) (by omega)) hb180 ?_
     refine .k 1 (fun fs57 hfs57 => ?_)
     refine .f x1 hb182 ?_
     refine .k 1 (fun fs58 hfs58 => ?_)
     refine .f (l1Int_fc (u.b.x - u.a.x) (by omega) (by omega)) hb180 ?_
     refine .k 1 (fun fs59 hfs59 => ?_)
     refine .f x2 hb182 ?_
     refine .f x3 hb192 ?_
     refine .k 1 (fun fs60 hfs60 => ?_)
     refine .r 12 (by simp only[ln, hfs56, hfs57, hfs58, hfs59, hfs60];omega) ?_
     refine hK55 _ ?_
     refine .sq fun K61 hK61 => ?_
     refine .d 12 ?_
     refine .k 3 (fun fs62 hfs62 => ?_)
     refine .f (l1Int_fc u.a.y (by omega) (by omega)) hb180 ?_
     refine .k 1 (fun fs63 hfs63 => ?_)
     refine .f y1 hb182 ?_
     refine .k 1 (fun fs64 hfs64 => ?_)
     refine .f (l1Int_fc (u.b.y - u.a.y) (by omega) (by omega)) hb180 ?_
     refine .k 1 (fun fs65 hfs65 => ?_)
     refine .f y2 hb182 ?_
     refine .f y3 hb192 ?_
     refine .k 1 (fun fs66 hfs66 => ?_)
     refine .r 12 (by simp only[ln, hfs62, hfs63, hfs64, hfs65, hfs66];omega) ?_
     refine hK61 _ ?_
     refine .sq fun K67 hK67 => ?_
     refine .region ?_
     refine .kf 3 l3 hb193 ?_
     refine .e ?_
     refine hK67 _ ?_
     refine .ret ?_
     exact hK _ _ _ _ trivial ((Fin.m).cast (by rw [hl4]; rfl))
   ·refine .r ?_ (by simp (disch := first|omega|(simp only[ln];omega)) [q3]; rfl)
    refine hK47 _ ?_
    refine .c (fun h95 => ?_) (fun h95 => ?_)
    ·try simp only[dc]at h95
     have hw : noWay u v = true := by rw [hnw, q3]; rfl
     refine .q ?_
     refine .ret ?_
     exact hK _ _ _ _ trivial ((Fin.m).cast (by unfold l4V; rw [hA, hB, if_neg h0, if_pos hw]; try rfl))
    ·simp at h95
end

end Go.Proofs.YtgeecahbahgjbaaGreat

/- Walks: rings, by the program. -/
namespace Go.Proofs.YtgeecahbahgjbaaGreat
open Go Go.RowKit
set_option linter.unusedSimpArgs false
set_option linter.unusedVariables false
set_option maxRecDepth 100000
attribute [local simp] szT2 byT2 agT2 unT2 zoT2 szT3 byT3 agT3 unT3 zoT3 szT24 byT24 agT24 elT24 unT24 zoT24 szT27 byT27 agT27 flT27 fdT27_0 fdT27_1 fdT27_2 fdT27_3 zoT27 szT29 byT29 agT29 flT29 fdT29_0 fdT29_1 fdT29_2 zoT29 szT38 byT38 agT38 flT38 fdT38_0 fdT38_1 zoT38 szT40 byT40 agT40 flT40 fdT40_0 fdT40_1 zoT40 szT41 byT41 agT41 elT41 unT41 zoT41 szT43 byT43 agT43 flT43 fdT43_0 zoT43

theorem rg_at {r : List Sp} {i : Nat} (h : i < r.length) : (r.map Sp.cells)[i]? = some [.int .i64 (gs r i).x, .int .i64 (gs r i).y] := by rw [List.getElem?_map, gs_get h]; rfl
theorem sds_at {r : List Sp} {i : Nat} (h : i < r.length) : ((sds r).map Sg.cells)[i]? = some [.int .i64 (sd r i).a.x, .int .i64 (sd r i).a.y, .int .i64 (sd r i).b.x, .int .i64 (sd r i).b.y] := by rw [List.getElem?_map, sds_get h]; rfl
theorem sds_take {r : List Sp} {i : Nat} (h : i < r.length) : ((sds r).take (i + 1)).map Sg.cells = ((sds r).take i).map Sg.cells ++ [[.int .i64 (segO (gs r i) (nx1 r i)).a.x, .int .i64 (segO (gs r i) (nx1 r i)).a.y, .int .i64 (segO (gs r i) (nx1 r i)).b.x, .int .i64 (segO (gs r i) (nx1 r i)).b.y]] := by
  rw [List.take_add_one, sds_get h]; simp [Sg.cells, sd]
theorem ite_tmod {n k : Nat} (h : k < n) : Int.tmod ((k : Int) + 1) (n : Int) = (((k + 1) % n : Nat) : Int) := (Int.ofNat_tmod (k + 1) n).symm

section
attribute [local simp] Sp.av Sp.cells Sg.av Sg.cells
theorem indexSp_fc (l : List Sp) (p : Sp) (hl : l.length ≤ 9223372036854775800) : FC Tryz.prog 111 [.isl (l.map Sp.cells), p.av] (.int .i64 (ixI l p : Int)) := by
 refine .b Tryz.func111 19 (fun nx K hK => ?_) (hi := by simp [idfL, idf, idfLL_iff, Sp.av, Sp.cells, Sg.av, Sg.cells])
 refine .q ?_
 refine .sq fun K2 hK2 => ?_
 refine .q ?_ (by simp (disch := first|omega|(simp only[ln];omega)) [List.length_map]; rfl)
 refine .block ?_
 
 refine .loop (fun N s => ∃ i : Nat, N = l.length - i ∧ i ≤ l.length ∧ (ixI l p = ixGo (l.drop i) i p) ∧ s.env 0 = .isl (l.map Sp.cells) ∧ s.env 3 = .ptr nx 0 0 ∧ s.env 7 = .int .i64 (l.length : Int) ∧ s.env 8 = .int .i64 (i : Int) ∧ s.heap nx = some (2, [[.int .i64 p.x, .int .i64 p.y]]) ∧ nx < s.nx ∧ s.nt = 19) (l.length) (by refine ⟨0, by omega, by omega, rfl, ?_, ?_, ?_, ?_, ?_, ?_, rfl⟩ <;> first|(simp (disch := omega);done)|omega|(simp;done)|(simp;omega)) ?_
 rintro N ⟨e, H, mm, nt⟩ ⟨i, rfl, hi, hv, g0, g3, g7, g8, Hp, xp, rfl⟩
 simp only [] at g0 g3 g7 g8 Hp xp
 refine .q ?_ (by simp (disch := first|omega|(simp only[ln];omega)) [g7, g8]; rfl)
 refine .sq fun K5 hK5 => ?_
 refine .c (fun h9 => ?_) (fun h9 => ?_)
 ·try simp only[dc]at h9
  have hi' : i < l.length := by omega
  have hat := rg_at hi'
  rw [drop_gs hi', ixGo] at hv
  refine .skip ?_
  refine hK5 _ ?_
  refine .sq fun K6 hK6 => ?_
  refine .block ?_
  refine .q ?_ (by simp (disch := first|omega|(simp only[ln];omega)) [g8]; rfl)
  refine .sq fun K8 hK8 => ?_
  refine .df 6 ?_ (by simp (disch := first|omega|(simp only[ln];omega)) [runDf.eq_def, runF1, runF2, stepF.eq_def, updo.eq_def, hupo.eq_def, opSto1.eq_def, if_pos, g0, g3, Hp, g8, hat, eqW2, List.length_map]; rfl)
  refine hK8 _ ?_
  refine .c (t := decide (p = gs l i)) (fun h16 => ?_) (fun h16 => ?_)
  ·try simp only[dc]at h16
   rw [if_pos h16.symm] at hv
   refine .q ?_
   refine .ret ?_
   exact hK _ _ _ _ trivial ((Fin.m).cast (by rw [hv]))
  ·try simp only[dc]at h16
   rw [if_neg (Ne.symm h16)] at hv
   refine .skip ?_
   refine hK6 _ ?_
   refine .r ?_ (by simp (disch := first|omega|(simp only[ln];omega)) [g8]; rfl)
   refine ⟨l.length - (i + 1), by omega, i + 1, rfl, by omega, hv, ?_, ?_, ?_, ?_, ?_, ?_, rfl⟩ <;> first|(simp (disch := omega) [g0, g3, g7, g8, Hp];done)|omega|(simp;done)|(simp;omega)
 ·try simp only[dc]at h9
  have hin : i = l.length := by omega
  rw [hin, List.drop_length, ixGo] at hv
  refine .exit ?_
  refine hK2 _ ?_
  refine .q ?_
  refine .ret ?_
  exact hK _ _ _ _ trivial ((Fin.m).cast (by rw [hv]))
theorem containsSp_fc (l : List Sp) (p : Sp) (hl : l.length ≤ 9223372036854775800) : FC Tryz.prog 102 [.isl (l.map Sp.cells), p.av] (.bool (decide (p ∈ l))) := by
 refine .b Tryz.func102 9 (fun nx K hK => ?_) (hi := by simp [idfL, idf, idfLL_iff, Sp.av, Sp.cells, Sg.av, Sg.cells])
 refine .q ?_
 refine .sq fun K2 hK2 => ?_
 refine .region ?_
 refine .kf 2 (indexSp_fc l p hl) hb111 ?_
 refine .e ?_
 refine hK2 _ ?_
 refine .ret ?_
 exact hK _ _ _ _ trivial ((Fin.m).cast (by rw [← ixI_mem]))
theorem segOf_fc (a b : Sp) : FC Tryz.prog 186 [a.av, b.av] (.agg [.int .i64 (segO a b).a.x, .int .i64 (segO a b).a.y, .int .i64 (segO a b).b.x, .int .i64 (segO a b).b.y]) := by
 refine .b Tryz.func186 15 (fun nx K hK => ?_) (hi := by simp [idfL, idf, idfLL_iff, Sp.av, Sp.cells, Sg.av, Sg.cells])
 refine .q ?_
 refine .sq fun K2 hK2 => ?_
 refine .sq fun K3 hK3 => ?_
 refine .region ?_
 refine .kf 2 (cmpSpots_fc a b) hb113 ?_
 refine .e ?_
 refine hK3 _ ?_
 refine .c (t := lsS b a) (fun h8 => ?_) (fun h8 => ?_) (by simp (disch := first|omega|(simp only[ln];omega)) [lsS_dec2])
 ·try simp only[dc]at h8
  refine .q ?_
  refine .ret ?_
  exact hK _ _ _ _ trivial ((Fin.mk (by simp (disch := omega) [aRes, aResL, aRes1]; rfl)).cast (by unfold segO; rw [if_pos h8]))
 ·try simp only[dc]at h8
  refine .skip ?_
  refine hK2 _ ?_
  refine .q ?_
  refine .ret ?_
  exact hK _ _ _ _ trivial ((Fin.mk (by simp (disch := omega) [aRes, aResL, aRes1]; rfl)).cast (by unfold segO; rw [h8]; rfl))
set_option maxHeartbeats 1000000 in
theorem sides_fc (r : List Sp) (hl : r.length ≤ 1099511627776) : FC Tryz.prog 103 [.agg [.isl (r.map Sp.cells)]] (.isl ((sds r).map Sg.cells)) := by
 refine .b Tryz.func103 32 (fun nx K hK => ?_) (hi := by simp [idfL, idf, idfLL_iff, Sp.av, Sp.cells, Sg.av, Sg.cells]) (hr := by simp [idf, idfLL_iff, Sg.cells, idfL])
 refine .q ?_
 refine .q ?_
 refine .sq fun K3 hK3 => ?_
 refine .q ?_ (by simp (disch := first|omega|(simp only[ln];omega)) [List.length_map]; rfl)
 refine .block ?_
 
 refine .loop (fun N s => ∃ i : Nat, ∃ id : Nat, N = r.length - i ∧ i ≤ r.length ∧ (nx < id) ∧ s.env 1 = .ptr nx 0 0 ∧ s.env 3 = .osl id 0 i ∧ s.env 8 = .isl (r.map Sp.cells) ∧ s.env 9 = .int .i64 (r.length : Int) ∧ s.env 10 = .int .i64 (i : Int) ∧ s.heap nx = some (1, [[.isl (r.map Sp.cells)]]) ∧ nx < s.nx ∧ s.heap id = some (4, ((sds r).take i).map Sg.cells) ∧ id < s.nx ∧ s.nt = 32) (r.length) (by refine ⟨0, nx + 1, by omega, by omega, by omega, ?_, ?_, ?_, ?_, ?_, ?_, ?_, ?_, ?_, rfl⟩ <;> first|(simp (disch := omega);done)|omega|(simp;done)|(simp;omega)) ?_
 rintro N ⟨e, H, mm, nt⟩ ⟨i, id, rfl, hi, hid, g1, g3, g8, g9, g10, Hr, xr, Ho, xo, rfl⟩
 simp only [] at g1 g3 g8 g9 g10 Hr xr Ho xo
 refine .q ?_ (by simp (disch := first|omega|(simp only[ln];omega)) [g9, g10]; rfl)
 refine .sq fun K6 hK6 => ?_
 refine .c (fun h11 => ?_) (fun h11 => ?_)
 ·try simp only[dc]at h11
  have hi' : i < r.length := by omega
  have hat := rg_at hi'
  obtain ⟨j, hj⟩ : ∃ j : Nat, j = (i + 1) % r.length := ⟨_, rfl⟩
  have hjl : j < r.length := by rw [hj]; exact nx1_lt hi'
  have htm : Int.tmod ((i : Int) + 1) (r.length : Int) = (j : Int) := by rw [hj]; exact ite_tmod hi'
  have hat2 := rg_at hjl
  have hnj : gs r j = nx1 r i := by rw [hj]; rfl
  have hst := sds_take hi'
  have hc1 : i ≤ min i (sds r).length := by rw [sds_len]; omega
  have hc2 : (i + 1) * 32 ≤ 140737488355328 := by omega
  have hc3 : i ≤ 9223372036854775806 := by omega
  have hne : ¬ r = [] := by intro h; rw [h] at hi'; simp at hi'
  have htk : ((sds r).take i).length = i := by rw [List.length_take, sds_len]; omega
  refine .skip ?_
  refine hK6 _ ?_
  refine .sq fun K7 hK7 => ?_
  refine .block ?_
  refine .q ?_ (by simp (disch := first|omega|(simp only[ln];omega)) [if_pos, g8, g10, hat, List.length_map]; rfl)
  refine AWP.drawT 14 Tryz.checked.mixed (by kernel_rfl) (by kernel_rfl) ?_
  simp only [List.take_succ_cons, List.take_zero, List.drop_succ_cons, List.drop_zero]
  refine .k 12 (fun fs9 hfs9 => ?_) (by simp (disch := first|omega|(simp only[ln];omega)) [runDf.eq_def, runF1, runF2, stepF.eq_def, updo.eq_def, hupo.eq_def, opSto1.eq_def, List.take_succ_cons, List.take_zero, if_pos, g1, g3, Hr, Ho, hat, hat2, htm, hne, htk, hc1, hc2, hc3, List.length_map]; rfl)
  refine .f (segOf_fc (gs r i) (gs r j)) hb186 ?_ (ha := by simp (disch := first|omega|(simp only[ln];omega)) [idf_Wd', if_pos, g1, g3, Hr, Ho, hat, hat2, htm, hne, htk, hc1, hc2, hc3, List.length_map])
  refine .k 1 (fun fs10 hfs10 => ?_) (by simp (disch := first|omega|(simp only[ln];omega)) [runDf.eq_def, runF1, runF2, stepF.eq_def, updo.eq_def, hupo.eq_def, opSto1.eq_def, List.take_succ_cons, List.take_zero, if_pos, g1, g3, Hr, Ho, hat, hat2, htm, hne, htk, hc1, hc2, hc3, List.length_map]; rfl)
  simp only [DP]
  refine AOPS.opapp (by simp (disch := first|omega|(simp only[ln];omega)) [opApp.eq_def, aSrc_isl, aSrc_osl, aSrc_nsl, aSrc_int, wd_app, wd_app2, if_pos, wd_append, wd_take, wd_drop, List.nil_append, g1, g3, Hr, Ho, hat, hat2, htm, hne, htk, hc1, hc2, hc3, List.length_map, src_Wd' (P := Tryz.prog) elT24]; first | rfl | exact ⟨rfl, rfl⟩ | exact ⟨rfl, rfl, rfl⟩) (by simp) (by simp) ?_
  simp only [puts_some, hdrop]
  refine .e ?_ (by simp (disch := first|omega|(simp only[ln];omega)) [if_pos, g1, g3, Hr, Ho, hat, hat2, htm, hne, htk, hc1, hc2, hc3, List.length_map]; rfl)
  refine hK7 _ ?_
  refine .r ?_ (by simp (disch := first|omega|(simp only[ln];omega)) [g10]; rfl)
  refine ⟨r.length - (i + 1), by omega, i + 1, mm + 1 + 14, rfl, by omega, by omega, ?_, ?_, ?_, ?_, ?_, ?_, ?_, ?_, ?_, rfl⟩ <;> first|(simp (disch := omega) [g1, g3, g8, g9, g10, Hr, Ho, hst, hnj, List.take_take];done)|omega|(simp;done)|(simp;omega)
 ·try simp only[dc]at h11
  have hin : i = r.length := by omega
  have htl : (sds r).take i = sds r := by rw [hin, ← sds_len r, List.take_length]
  rw [htl] at Ho
  subst hin
  refine .exit ?_
  refine hK3 _ ?_
  refine .q ?_ (by simp (disch := first|omega|(simp only[ln];omega)) [g3]; rfl)
  refine .ret ?_
  exact hK _ _ _ _ trivial (((Fin.mk (r := .osl id 0 r.length) (by simp [aRes, aResL, aRes1])).freeze (id := id) (z := 4) (es := (sds r).map Sg.cells) (by simp [Ho])).cast (by rw [fz_fill _ _ (sds_len r).symm]))
set_option maxHeartbeats 4000000 in
theorem ringFaultI_fc (r : List Sp) (hl : r.length ≤ 1099511627776) : FC Tryz.prog 22 [.agg [.isl (r.map Sp.cells)]] (.int .i64 (rgF r : Int)) := by
 refine .b Tryz.func22 103 (fun nx K hK => ?_) (hi := by simp [idfL, idf, idfLL_iff, Sp.av, Sp.cells, Sg.av, Sg.cells])
 refine .q ?_
 refine .q ?_ (by simp (disch := first|omega|(simp only[ln];omega)) [List.length_map]; rfl)
 refine .sq fun K3 hK3 => ?_
 refine .block ?_
 refine .q ?_
 refine .c (t := decide ((r.length : Int) < 3)) (fun h20 => ?_) (fun h20 => ?_)
 ·try simp only[dc]at h20
  refine .q ?_
  refine .ret ?_
  exact hK _ _ _ _ trivial ((Fin.m).cast (by rw [rgF_few (by omega)]))
 ·try simp only[dc]at h20
  refine .q ?_
  refine .c (t := decide (12 < (r.length : Int))) (fun h23 => ?_) (fun h23 => ?_)
  ·try simp only[dc]at h23
   refine .q ?_
   refine .ret ?_
   exact hK _ _ _ _ trivial ((Fin.m).cast (by rw [rgF_many (by omega)]))
  ·try simp only[dc]at h23
   have h3 : ¬ r.length < 3 := by omega
   have h12 : ¬ 12 < r.length := by omega
   refine .skip ?_
   refine hK3 _ ?_
   refine .sq fun K8 hK8 => ?_
   refine .q ?_ (by simp (disch := first|omega|(simp only[ln];omega)) [List.length_map]; rfl)
   refine .block ?_
   
   refine .loop (fun N s => ∃ i : Nat, N = r.length - i ∧ i ≤ r.length ∧ (∀ j, j < i → (gs r j).good = true) ∧ s.env 1 = .ptr nx 0 0 ∧ s.env 3 = .int .i64 (r.length : Int) ∧ s.env 27 = .isl (r.map Sp.cells) ∧ s.env 28 = .int .i64 (r.length : Int) ∧ s.env 29 = .int .i64 (i : Int) ∧ s.heap nx = some (1, [[.isl (r.map Sp.cells)]]) ∧ nx < s.nx ∧ s.nt = 103) (r.length) (by refine ⟨0, by omega, by omega, fun j h => by omega, ?_, ?_, ?_, ?_, ?_, ?_, ?_, rfl⟩ <;> first|(simp (disch := omega);done)|omega|(simp;done)|(simp;omega)) ?_
   rintro N ⟨e, H, mm, nt⟩ ⟨i, rfl, hi, hgd, g1, g3, g27, g28, g29, Hr, xr, rfl⟩
   simp only [] at g1 g3 g27 g28 g29 Hr xr
   refine .q ?_ (by simp (disch := first|omega|(simp only[ln];omega)) [g28, g29]; rfl)
   refine .sq fun K11 hK11 => ?_
   refine .c (fun h30 => ?_) (fun h30 => ?_)
   ·try simp only[dc]at h30
    have hi' : i < r.length := by omega
    have hat := rg_at hi'
    refine .skip ?_
    refine hK11 _ ?_
    refine .sq fun K12 hK12 => ?_
    refine .block ?_
    refine .q ?_ (by simp (disch := first|omega|(simp only[ln];omega)) [if_pos, g27, g29, hat, List.length_map]; rfl)
    refine .sq fun K14 hK14 => ?_
    refine .region ?_
    refine .kf 1 (spotOkI_fc (gs r i)) hb101 ?_
    refine .e ?_
    refine hK14 _ ?_
    refine .c (t := !(gs r i).good) (fun h35 => ?_) (fun h35 => ?_)
    ·try simp only[dc]at h35
     have hb : ¬ (gs r i).good = true := by simpa using h35
     refine .q ?_
     refine .ret ?_
     exact hK _ _ _ _ trivial ((Fin.m).cast (by rw [rgF_coord h3 h12 (gs_mem hi') hb]))
    ·try simp only[dc]at h35
     have hg1 : (gs r i).good = true := by simpa using h35
     refine .skip ?_
     refine hK12 _ ?_
     refine .r ?_ (by simp (disch := first|omega|(simp only[ln];omega)) [g29]; rfl)
     refine ⟨r.length - (i + 1), by omega, i + 1, rfl, by omega, fun j h => by rcases Nat.lt_succ_iff_lt_or_eq.1 h with h | h; exact hgd j h; rw [h]; exact hg1, ?_, ?_, ?_, ?_, ?_, ?_, ?_, rfl⟩ <;> first|(simp (disch := omega) [g1, g3, g27, g28, g29, Hr];done)|omega|(simp;done)|(simp;omega)
   ·try simp only[dc]at h30
    have hG : spsGood r := spsGood_of (by omega) hgd
    clear hgd
    refine .exit ?_
    refine hK8 _ ?_
    refine .sq fun K16 hK16 => ?_
    refine .q ?_ (by simp (disch := first|omega|(simp only[ln];omega)) [g1, Hr, List.length_map]; rfl)
    refine .block ?_
    
    refine .loop (fun N s => ∃ i : Nat, N = r.length - i ∧ i ≤ r.length ∧ (∀ j k, k < j → j < i → gs r j ≠ gs r k) ∧ s.env 1 = .ptr nx 0 0 ∧ s.env 3 = .int .i64 (r.length : Int) ∧ s.env 38 = .isl (r.map Sp.cells) ∧ s.env 39 = .int .i64 (r.length : Int) ∧ s.env 40 = .int .i64 (i : Int) ∧ s.heap nx = some (1, [[.isl (r.map Sp.cells)]]) ∧ nx < s.nx ∧ s.nt = 103) (r.length) (by refine ⟨0, by omega, by omega, fun j k h h' => by omega, ?_, ?_, ?_, ?_, ?_, ?_, ?_, rfl⟩ <;> first|(simp (disch := omega) [g1, g3, Hr];done)|omega|(simp;done)|(simp;omega)) ?_
    clear g1 g3 g27 g28 g29 Hr
    rintro N ⟨e, H, mm, nt⟩ ⟨i, rfl, hi, hnd, g1, g3, g38, g39, g40, Hr, xr, rfl⟩
    simp only [] at g1 g3 g38 g39 g40 Hr xr
    refine .q ?_ (by simp (disch := first|omega|(simp only[ln];omega)) [g39, g40]; rfl)
    refine .sq fun K19 hK19 => ?_
    refine .c (fun h41 => ?_) (fun h41 => ?_)
    ·try simp only[dc]at h41
     have hi' : i < r.length := by omega
     have hat := rg_at hi'
     refine .skip ?_
     refine hK19 _ ?_
     refine .sq fun K20 hK20 => ?_
     refine .block ?_
     refine .q ?_ (by simp (disch := first|omega|(simp only[ln];omega)) [if_pos, g38, g40, hat, List.length_map]; rfl)
     refine .sq fun K22 hK22 => ?_
     refine .d 6 ?_
     refine .k 5 (fun fs23 hfs23 => ?_) (by simp (disch := first|omega|(simp only[ln];omega)) [runDf.eq_def, runF1, runF2, stepF.eq_def, updo.eq_def, hupo.eq_def, opSto1.eq_def, List.take_succ_cons, List.take_zero, if_pos, g1, Hr, hi, List.map_take, List.length_map]; rfl)
     refine .f (containsSp_fc (r.take i) (gs r i) (by rw [List.length_take]; omega)) hb102 ?_ (ha := by simp (disch := first|omega|(simp only[ln];omega)) [idf_Wd', if_pos, g1, Hr, hi, List.map_take, List.length_map])
     refine .r 6 (by simp only[ln, hfs23];omega) ?_ (by simp (disch := first|omega|(simp only[ln];omega)) [runDf.eq_def, runF1, runF2, stepF.eq_def, updo.eq_def, hupo.eq_def, opSto1.eq_def, if_pos, g1, Hr, hi, List.map_take, List.length_map]; rfl)
     refine hK22 _ ?_
     refine .c (t := decide (gs r i ∈ r.take i)) (fun h50 => ?_) (fun h50 => ?_)
     ·try simp only[dc]at h50
      obtain ⟨k, hk, he⟩ := (take_gs hi).1 h50
      refine .q ?_
      refine .ret ?_
      exact hK _ _ _ _ trivial ((Fin.m).cast (by rw [rgF_twice h3 h12 hG ⟨i, k, hk, hi', he.symm⟩]))
     ·try simp only[dc]at h50
      have hn1 : ∀ k, k < i → gs r i ≠ gs r k := fun k hk he => h50 ((take_gs hi).2 ⟨k, hk, he.symm⟩)
      refine .skip ?_
      refine hK20 _ ?_
      refine .r ?_ (by simp (disch := first|omega|(simp only[ln];omega)) [g40]; rfl)
      refine ⟨r.length - (i + 1), by omega, i + 1, rfl, by omega, fun j k h h' => by rcases Nat.lt_succ_iff_lt_or_eq.1 h' with h' | h'; exact hnd j k h h'; rw [h']; exact hn1 k (by omega), ?_, ?_, ?_, ?_, ?_, ?_, ?_, rfl⟩ <;> first|(simp (disch := omega) [g1, g3, g38, g39, g40, Hr];done)|omega|(simp;done)|(simp;omega)
    ·try simp only[dc]at h41
     have hD : ¬ rgDup r := by rintro ⟨j, k, q1, q2, q3⟩; exact hnd j k q1 (by omega) q3
     clear hnd
     refine .exit ?_
     refine hK16 _ ?_
     refine .sq fun K25 hK25 => ?_
     refine .region ?_
     refine .kf 1 (sides_fc r hl) hb103 ?_ (by simp (disch := first|omega|(simp only[ln];omega)) [List.take_succ_cons, List.take_zero, g1, Hr]; rfl) (ha := by simp (disch := first|omega|(simp only[ln];omega)) [idf_Wd', g1, Hr])
     refine .e ?_ (by simp (disch := first|omega|(simp only[ln];omega)) [g1, Hr]; rfl)
     refine hK25 _ ?_
     refine .sq fun K26 hK26 => ?_
     refine .q ?_ (by simp (disch := first|omega|(simp only[ln];omega)) [sds_len, List.length_map]; rfl)
     refine .block ?_
     
     refine .loop (fun N s => ∃ i : Nat, N = r.length - i ∧ i ≤ r.length ∧ (∀ j k, k < j → j < i → ¬ badS r j k) ∧ s.env 3 = .int .i64 (r.length : Int) ∧ s.env 8 = .isl ((sds r).map Sg.cells) ∧ s.env 54 = .isl ((sds r).map Sg.cells) ∧ s.env 55 = .int .i64 (r.length : Int) ∧ s.env 56 = .int .i64 (i : Int) ∧ s.nt = 103) (r.length) (by refine ⟨0, by omega, by omega, fun j k h h' => by omega, ?_, ?_, ?_, ?_, ?_, rfl⟩ <;> first|(simp (disch := omega) [g3];done)|omega|(simp;done)|(simp;omega)) ?_
     clear g1 g3 g38 g39 g40 Hr
     rintro N ⟨e, H, mm, nt⟩ ⟨i, rfl, hi, hok, g3, g8, g54, g55, g56, rfl⟩
     simp only [] at g3 g8 g54 g55 g56
     refine .q ?_ (by simp (disch := first|omega|(simp only[ln];omega)) [g55, g56]; rfl)
     refine .sq fun K29 hK29 => ?_
     refine .c (fun h57 => ?_) (fun h57 => ?_)
     ·try simp only[dc]at h57
      have hi' : i < r.length := by omega
      have hat := sds_at hi'
      have gi := sd_good (by omega) hG hD hi'
      refine .skip ?_
      refine hK29 _ ?_
      refine .sq fun K30 hK30 => ?_
      refine .block ?_
      refine .q ?_ (by simp (disch := first|omega|(simp only[ln];omega)) [if_pos, g54, g56, hat, sds_len, List.length_map]; rfl)
      refine .q ?_ (by simp (disch := first|omega|(simp only[ln];omega)) [if_pos, g8, hi, sds_len, List.length_take, Nat.min_eq_left, List.length_map]; rfl)
      refine .block ?_
      
      refine .loop (fun N s => ∃ k : Nat, ∃ id : Nat, N = i - k ∧ k ≤ i ∧ (∀ k', k' < k → ¬ badS r i k') ∧ s.env 3 = .int .i64 (r.length : Int) ∧ s.env 8 = .isl ((sds r).map Sg.cells) ∧ s.env 9 = .int .i64 (i : Int) ∧ s.env 10 = .ptr id 0 0 ∧ s.env 54 = .isl ((sds r).map Sg.cells) ∧ s.env 55 = .int .i64 (r.length : Int) ∧ s.env 56 = .int .i64 (i : Int) ∧ s.env 63 = .isl ((sds r).map Sg.cells |>.take i) ∧ s.env 64 = .int .i64 (i : Int) ∧ s.env 65 = .int .i64 (k : Int) ∧ s.heap id = some (4, [[.int .i64 (sd r i).a.x, .int .i64 (sd r i).a.y, .int .i64 (sd r i).b.x, .int .i64 (sd r i).b.y]]) ∧ id < s.nx ∧ s.nt = 103) (i) (by refine ⟨0, mm, by omega, by omega, fun j h => by omega, ?_, ?_, ?_, ?_, ?_, ?_, ?_, ?_, ?_, ?_, ?_, ?_, rfl⟩ <;> first|(simp (disch := omega) [g3, g8, g54, g55, g56];done)|omega|(simp;done)|(simp;omega)) ?_
      clear g3 g8 g54 g55 g56
      rintro N ⟨e, H, mm, nt⟩ ⟨k, id, rfl, hk, hk2, g3, g8, g9, g10, g54, g55, g56, g63, g64, g65, Hs, xs, rfl⟩
      simp only [] at g3 g8 g9 g10 g54 g55 g56 g63 g64 g65 Hs xs
      refine .q ?_ (by simp (disch := first|omega|(simp only[ln];omega)) [g64, g65]; rfl)
      refine .sq fun K34 hK34 => ?_
      refine .c (fun h66 => ?_) (fun h66 => ?_)
      ·try simp only[dc]at h66
       have hk' : k < i := by omega
       have hki : k < r.length := by omega
       have hatk := sds_at hki
       have gk := sd_good (by omega) hG hD hki
       have hmt := meetI_fc (sd r i) (sd r k) gi gk
       obtain ⟨M, hM⟩ : ∃ M, meetI (sd r i) (sd r k) = M := ⟨_, rfl⟩
       rw [hM] at hmt
       have hbd : badS r i k ↔ (M.1 = 2 ∨ (M.1 = 1 ∧ ¬ nxt r.length i k)) := by unfold badS mkd; rw [hM]
       refine .skip ?_
       refine hK34 _ ?_
       refine .sq fun K35 hK35 => ?_
       refine .block ?_
       refine .q ?_ (by simp (disch := first|omega|(simp only[ln];omega)) [if_pos, g63, g65, hk', hatk, sds_len, List.getElem?_take, List.length_take, List.length_map]; rfl)
       refine .sq fun K37 hK37 => ?_
       refine .region ?_
       refine .kf 2 hmt hb104 ?_ (by simp (disch := first|omega|(simp only[ln];omega)) [List.take_succ_cons, List.take_zero, g10, Hs]; rfl) (ha := by simp (disch := first|omega|(simp only[ln];omega)) [idf_Wd', g10, Hs])
       refine .e ?_ (by simp (disch := first|omega|(simp only[ln];omega)) [g10, Hs]; rfl)
       refine hK37 _ ?_
       refine .sq fun K38 hK38 => ?_
       have J38 : ∀ s : St, (∃ nb : Bool, (nb = true ↔ nxt r.length i k) ∧ s.env 3 = .int .i64 (r.length : Int) ∧ s.env 8 = .isl ((sds r).map Sg.cells) ∧ s.env 9 = .int .i64 (i : Int) ∧ s.env 10 = .ptr id 0 0 ∧ s.env 54 = .isl ((sds r).map Sg.cells) ∧ s.env 55 = .int .i64 (r.length : Int) ∧ s.env 56 = .int .i64 (i : Int) ∧ s.env 63 = .isl ((sds r).map Sg.cells |>.take i) ∧ s.env 64 = .int .i64 (i : Int) ∧ s.env 65 = .int .i64 (k : Int) ∧ s.env 11 = .int .i64 (k : Int) ∧ s.env 13 = .int .i64 (M.1 : Int) ∧ s.env 16 = .bool nb ∧ s.heap id = some (4, [[.int .i64 (sd r i).a.x, .int .i64 (sd r i).a.y, .int .i64 (sd r i).b.x, .int .i64 (sd r i).b.y]]) ∧ id < s.nx ∧ s.nt = 103) → K38 s := by
        clear g3 g8 g9 g10 g54 g55 g56 g63 g64 g65 Hs xs
        rintro ⟨e, H, mm, nt⟩ ⟨nb, hnb, g3, g8, g9, g10, g54, g55, g56, g63, g64, g65, g11, g13, g16, Hs, xs, rfl⟩
        simp only [] at g3 g8 g9 g10 g54 g55 g56 g63 g64 g65 g11 g13 g16 Hs xs
        refine hK38 _ ?_
        refine .sq fun K39 hK39 => ?_
        by_cases m2 : M.1 = 2
        ·have d2 : (M.1 == 2) = true := by simp [m2]
         refine .r ?_ (by simp (disch := first|omega|(simp only[ln];omega)) [g13, g16, d2]; rfl)
         refine hK39 _ ?_
         refine .c (fun h100 => ?_) (fun h100 => ?_)
         ·try simp only[dc]at h100
          have hbad : badS r i k := hbd.2 (.inl m2)
          refine .q ?_
          refine .ret ?_
          exact hK _ _ _ _ trivial ((Fin.m).cast (by rw [rgF_cross h3 h12 hG hD ⟨i, k, hk', hi', hbad⟩]))
         ·simp at h100
        ·have d2 : (M.1 == 2) = false := by simp [m2]
         by_cases m1 : M.1 = 1
         ·have d1 : (M.1 == 1) = true := by simp [m1]
          refine .r ?_ (by simp (disch := first|omega|(simp only[ln];omega)) [g13, g16, d2, d1]; rfl)
          refine hK39 _ ?_
          refine .c (t := !nb) (fun h100 => ?_) (fun h100 => ?_)
          ·try simp only[dc]at h100
           have hf : nb = false := by simpa using h100
           have hbad : badS r i k := hbd.2 (.inr ⟨m1, fun h => by rw [hnb.2 h] at hf; simp at hf⟩)
           refine .q ?_
           refine .ret ?_
           exact hK _ _ _ _ trivial ((Fin.m).cast (by rw [rgF_cross h3 h12 hG hD ⟨i, k, hk', hi', hbad⟩]))
          ·try simp only[dc]at h100
           have hf : nb = true := by simpa using h100
           have hnbad : ¬ badS r i k := fun h => by rcases hbd.1 h with h | h; exact m2 h; exact h.2 (hnb.1 hf)
           refine .skip ?_
           refine hK35 _ ?_
           refine .r ?_ (by simp (disch := first|omega|(simp only[ln];omega)) [g65]; rfl)
           refine ⟨i - (k + 1), by omega, k + 1, id, rfl, by omega, fun j h => by rcases Nat.lt_succ_iff_lt_or_eq.1 h with h | h; exact hk2 j h; rw [h]; exact hnbad, ?_, ?_, ?_, ?_, ?_, ?_, ?_, ?_, ?_, ?_, ?_, ?_, rfl⟩ <;> first|(simp (disch := omega) [g3, g8, g9, g10, g54, g55, g56, g63, g64, g65, Hs];done)|omega|(simp;done)|(simp;omega)
         ·have d1 : (M.1 == 1) = false := by simp [m1]
          refine .r ?_ (by simp (disch := first|omega|(simp only[ln];omega)) [g13, g16, d2, d1]; rfl)
          refine hK39 _ ?_
          refine .c (fun h100 => ?_) (fun h100 => ?_)
          ·simp at h100
          ·try simp only[dc]at h100
           have hnbad : ¬ badS r i k := fun h => by rcases hbd.1 h with h | h; exact m2 h; exact m1 h.1
           refine .skip ?_
           refine hK35 _ ?_
           refine .r ?_ (by simp (disch := first|omega|(simp only[ln];omega)) [g65]; rfl)
           refine ⟨i - (k + 1), by omega, k + 1, id, rfl, by omega, fun j h => by rcases Nat.lt_succ_iff_lt_or_eq.1 h with h | h; exact hk2 j h; rw [h]; exact hnbad, ?_, ?_, ?_, ?_, ?_, ?_, ?_, ?_, ?_, ?_, ?_, ?_, rfl⟩ <;> first|(simp (disch := omega) [g3, g8, g9, g10, g54, g55, g56, g63, g64, g65, Hs];done)|omega|(simp;done)|(simp;omega)
       by_cases q1 : (k : Int) = (i : Int) - 1
       ·have c1 : ((k : Int) == (i : Int) - 1) = true := by simp [q1]
        refine .r ?_ (by simp (disch := first|omega|(simp only[ln];omega)) [g3, g8, g9, g10, g54, g55, g56, g63, g64, g65, Hs, c1]; rfl)
        refine J38 _ ?_
        refine ⟨true, ⟨fun _ => .inl (by omega), fun _ => rfl⟩, ?_, ?_, ?_, ?_, ?_, ?_, ?_, ?_, ?_, ?_, ?_, ?_, ?_, ?_, ?_, rfl⟩ <;> first|(simp (disch := omega) [g3, g8, g9, g10, g54, g55, g56, g63, g64, g65, Hs];done)|omega|(simp;done)|(simp;omega)
       ·have c1 : ((k : Int) == (i : Int) - 1) = false := by simp [q1]
        by_cases q2 : k = 0
        ·have c2 : ((k : Int) == 0) = true := by simp [q2]
         have c2' : (k == 0) = true := by simp [q2]
         by_cases q3 : (i : Int) = (r.length : Int) - 1
         ·have c3 : ((i : Int) == (r.length : Int) - 1) = true := by simp [q3]
          refine .r ?_ (by simp (disch := first|omega|(simp only[ln];omega)) [g3, g8, g9, g10, g54, g55, g56, g63, g64, g65, Hs, c1, c2, c2', c3]; rfl)
          refine J38 _ ?_
          refine ⟨true, ⟨fun _ => .inr ⟨by omega, by omega⟩, fun _ => rfl⟩, ?_, ?_, ?_, ?_, ?_, ?_, ?_, ?_, ?_, ?_, ?_, ?_, ?_, ?_, ?_, rfl⟩ <;> first|(simp (disch := omega) [g3, g8, g9, g10, g54, g55, g56, g63, g64, g65, Hs];done)|omega|(simp;done)|(simp;omega)
         ·have c3 : ((i : Int) == (r.length : Int) - 1) = false := by simp [q3]
          refine .r ?_ (by simp (disch := first|omega|(simp only[ln];omega)) [g3, g8, g9, g10, g54, g55, g56, g63, g64, g65, Hs, c1, c2, c2', c3]; rfl)
          refine J38 _ ?_
          refine ⟨false, ⟨fun h => by simp at h, fun h => by rcases h with h | ⟨h, h'⟩ <;> omega⟩, ?_, ?_, ?_, ?_, ?_, ?_, ?_, ?_, ?_, ?_, ?_, ?_, ?_, ?_, ?_, rfl⟩ <;> first|(simp (disch := omega) [g3, g8, g9, g10, g54, g55, g56, g63, g64, g65, Hs];done)|omega|(simp;done)|(simp;omega)
        ·have c2 : ((k : Int) == 0) = false := by simp; omega
         have c2' : (k == 0) = false := by simp; omega
         refine .r ?_ (by simp (disch := first|omega|(simp only[ln];omega)) [g3, g8, g9, g10, g54, g55, g56, g63, g64, g65, Hs, c1, c2, c2']; rfl)
         refine J38 _ ?_
         refine ⟨false, ⟨fun h => by simp at h, fun h => by rcases h with h | ⟨h, h'⟩ <;> omega⟩, ?_, ?_, ?_, ?_, ?_, ?_, ?_, ?_, ?_, ?_, ?_, ?_, ?_, ?_, ?_, rfl⟩ <;> first|(simp (disch := omega) [g3, g8, g9, g10, g54, g55, g56, g63, g64, g65, Hs];done)|omega|(simp;done)|(simp;omega)
      ·try simp only[dc]at h66
       have hn1 : ∀ k', k' < i → ¬ badS r i k' := fun k' h => hk2 k' (by omega)
       refine .exit ?_
       refine hK30 _ ?_
       refine .r ?_ (by simp (disch := first|omega|(simp only[ln];omega)) [g56]; rfl)
       refine ⟨r.length - (i + 1), by omega, i + 1, rfl, by omega, fun j k h h' => by rcases Nat.lt_succ_iff_lt_or_eq.1 h' with h' | h'; exact hok j k h h'; rw [h']; exact hn1 k (by omega), ?_, ?_, ?_, ?_, ?_, rfl⟩ <;> first|(simp (disch := omega) [g3, g8, g54, g55, g56];done)|omega|(simp;done)|(simp;omega)
     ·try simp only[dc]at h57
      have hX : ¬ rgX r := by rintro ⟨j, k, q1, q2, q3⟩; exact hok j k q1 (by omega) q3
      refine .exit ?_
      refine hK26 _ ?_
      refine .q ?_
      refine .ret ?_
      exact hK _ _ _ _ trivial ((Fin.m).cast (by rw [rgF_ok h3 h12 hG hD hX]))
set_option maxHeartbeats 2000000 in
theorem ringsMeetI_fc (a b : List Sp) (za : rgF a = 0) (zb : rgF b = 0) : FC Tryz.prog 259 [.agg [.isl (a.map Sp.cells)], .agg [.isl (b.map Sp.cells)]] (.bool (rgsM a b)) := by
 obtain ⟨a1, a2, a3, a4, _⟩ := rgF_zero za
 obtain ⟨b1, b2, b3, b4, _⟩ := rgF_zero zb
 refine .b Tryz.func259 37 (fun nx K hK => ?_) (hi := by simp [idfL, idf, idfLL_iff, Sp.av, Sp.cells, Sg.av, Sg.cells])
 refine .q ?_
 refine .sq fun K2 hK2 => ?_
 refine .sq fun K3 hK3 => ?_
 refine .region ?_
 refine .kf 1 (sides_fc a (by omega)) hb103 ?_ (by simp (disch := first|omega|(simp only[ln];omega)) [List.take_succ_cons, List.take_zero, sds_len, List.length_map]; rfl) (ha := by simp (disch := first|omega|(simp only[ln];omega)) [idf_Wd', sds_len, List.length_map])
 refine .e ?_ (by simp (disch := first|omega|(simp only[ln];omega)) [sds_len, List.length_map]; rfl)
 refine hK3 _ ?_
 refine .block ?_
 
 refine .loop (fun N s => ∃ i : Nat, N = a.length - i ∧ i ≤ a.length ∧ (∀ i' k, i' < i → k < b.length → (meetI (sd a i') (sd b k)).1 = 0) ∧ s.env 3 = .ptr (nx + 1) 0 0 ∧ s.env 13 = .isl ((sds a).map Sg.cells) ∧ s.env 14 = .int .i64 (a.length : Int) ∧ s.env 15 = .int .i64 (i : Int) ∧ s.heap (nx + 1) = some (1, [[.isl (b.map Sp.cells)]]) ∧ (nx + 1) < s.nx ∧ s.nt = 37) (a.length) (by refine ⟨0, by omega, by omega, fun j k h _ => by omega, ?_, ?_, ?_, ?_, ?_, ?_, rfl⟩ <;> first|(simp (disch := omega) [sds_len];done)|omega|(simp;done)|(simp;omega)) ?_
 rintro N ⟨e, H, mm, nt⟩ ⟨i, rfl, hi, hno, g3, g13, g14, g15, Hb, xb, rfl⟩
 simp only [] at g3 g13 g14 g15 Hb xb
 refine .q ?_ (by simp (disch := first|omega|(simp only[ln];omega)) [g14, g15]; rfl)
 refine .sq fun K5 hK5 => ?_
 refine .c (fun h16 => ?_) (fun h16 => ?_)
 ·try simp only[dc]at h16
  have hi' : i < a.length := by omega
  have hat := sds_at hi'
  have gi := sd_good (by omega) a3 a4 hi'
  refine .skip ?_
  refine hK5 _ ?_
  refine .sq fun K6 hK6 => ?_
  refine .block ?_
  refine .q ?_ (by simp (disch := first|omega|(simp only[ln];omega)) [if_pos, g13, g15, hat, sds_len, List.length_map]; rfl)
  refine .sq fun K8 hK8 => ?_
  refine .region ?_
  refine .kf 1 (sides_fc b (by omega)) hb103 ?_ (by simp (disch := first|omega|(simp only[ln];omega)) [List.take_succ_cons, List.take_zero, g3, Hb, sds_len, List.length_map]; rfl) (ha := by simp (disch := first|omega|(simp only[ln];omega)) [idf_Wd', g3, Hb, sds_len, List.length_map])
  refine .e ?_ (by simp (disch := first|omega|(simp only[ln];omega)) [g3, Hb, sds_len, List.length_map]; rfl)
  refine hK8 _ ?_
  refine .block ?_
  
  refine .loop (fun N s => ∃ k : Nat, ∃ id : Nat, N = b.length - k ∧ k ≤ b.length ∧ (nx + 1 < id) ∧ (∀ k', k' < k → (meetI (sd a i) (sd b k')).1 = 0) ∧ s.env 3 = .ptr (nx + 1) 0 0 ∧ s.env 6 = .ptr id 0 0 ∧ s.env 13 = .isl ((sds a).map Sg.cells) ∧ s.env 14 = .int .i64 (a.length : Int) ∧ s.env 15 = .int .i64 (i : Int) ∧ s.env 20 = .isl ((sds b).map Sg.cells) ∧ s.env 21 = .int .i64 (b.length : Int) ∧ s.env 22 = .int .i64 (k : Int) ∧ s.heap (nx + 1) = some (1, [[.isl (b.map Sp.cells)]]) ∧ (nx + 1) < s.nx ∧ s.heap id = some (4, [[.int .i64 (sd a i).a.x, .int .i64 (sd a i).a.y, .int .i64 (sd a i).b.x, .int .i64 (sd a i).b.y]]) ∧ id < s.nx ∧ s.nt = 37) (b.length) (by refine ⟨0, mm, by omega, by omega, by omega, fun j h => by omega, ?_, ?_, ?_, ?_, ?_, ?_, ?_, ?_, ?_, ?_, ?_, ?_, rfl⟩ <;> first|(simp (disch := omega) [g3, g13, g14, g15, Hb, sds_len];done)|omega|(simp;done)|(simp;omega)) ?_
  clear g3 g13 g14 g15 Hb
  rintro N ⟨e, H, mm, nt⟩ ⟨k, id, rfl, hk, hidb, hk2, g3, g6, g13, g14, g15, g20, g21, g22, Hb, xb, Hs, xs, rfl⟩
  simp only [] at g3 g6 g13 g14 g15 g20 g21 g22 Hb xb Hs xs
  refine .q ?_ (by simp (disch := first|omega|(simp only[ln];omega)) [g21, g22]; rfl)
  refine .sq fun K10 hK10 => ?_
  refine .c (fun h23 => ?_) (fun h23 => ?_)
  ·try simp only[dc]at h23
   have hk' : k < b.length := by omega
   have hatk := sds_at hk'
   have gk := sd_good (by omega) b3 b4 hk'
   have hmt := meetI_fc (sd a i) (sd b k) gi gk
   obtain ⟨M, hM⟩ : ∃ M, meetI (sd a i) (sd b k) = M := ⟨_, rfl⟩
   rw [hM] at hmt
   refine .skip ?_
   refine hK10 _ ?_
   refine .sq fun K11 hK11 => ?_
   refine .block ?_
   refine .q ?_ (by simp (disch := first|omega|(simp only[ln];omega)) [if_pos, g20, g22, hatk, sds_len, List.length_map]; rfl)
   refine .sq fun K13 hK13 => ?_
   refine .region ?_
   refine .kf 2 hmt hb104 ?_ (by simp (disch := first|omega|(simp only[ln];omega)) [List.take_succ_cons, List.take_zero, g6, Hs]; rfl) (ha := by simp (disch := first|omega|(simp only[ln];omega)) [idf_Wd', g6, Hs])
   refine .e ?_ (by simp (disch := first|omega|(simp only[ln];omega)) [g6, Hs]; rfl)
   refine hK13 _ ?_
   refine .q ?_
   refine .c (t := M.1 != 0) (fun h34 => ?_) (fun h34 => ?_) (by simp (disch := first|omega|(simp only[ln];omega)) [bne])
   ·try simp only[dc]at h34
    have hm1 : M.1 ≠ 0 := by simpa using h34
    have hr : rgsM a b = true := rgsM_yes ⟨i, k, hi', hk', by rw [hM]; exact hm1⟩
    refine .q ?_
    refine .ret ?_
    exact hK _ _ _ _ trivial ((Fin.m).cast (by rw [hr]))
   ·try simp only[dc]at h34
    have hm0 : (meetI (sd a i) (sd b k)).1 = 0 := by rw [hM]; simpa using h34
    refine .skip ?_
    refine hK11 _ ?_
    refine .r ?_ (by simp (disch := first|omega|(simp only[ln];omega)) [g22]; rfl)
    refine ⟨b.length - (k + 1), by omega, k + 1, id, rfl, by omega, hidb, fun j h => by rcases Nat.lt_succ_iff_lt_or_eq.1 h with h | h; exact hk2 j h; rw [h]; exact hm0, ?_, ?_, ?_, ?_, ?_, ?_, ?_, ?_, ?_, ?_, ?_, ?_, rfl⟩ <;> first|(simp (disch := omega) [g3, g6, g13, g14, g15, g20, g21, g22, Hb, Hs];done)|omega|(simp;done)|(simp;omega)
  ·try simp only[dc]at h23
   have hn1 : ∀ k, k < b.length → (meetI (sd a i) (sd b k)).1 = 0 := fun k' h => hk2 k' (by omega)
   refine .exit ?_
   refine hK6 _ ?_
   refine .r ?_ (by simp (disch := first|omega|(simp only[ln];omega)) [g15]; rfl)
   refine ⟨a.length - (i + 1), by omega, i + 1, rfl, by omega, fun j k h h' => by rcases Nat.lt_succ_iff_lt_or_eq.1 h with h | h; exact hno j k h h'; rw [h]; exact hn1 k h', ?_, ?_, ?_, ?_, ?_, ?_, rfl⟩ <;> first|(simp (disch := omega) [g3, g13, g14, g15, Hb];done)|omega|(simp;done)|(simp;omega)
 ·try simp only[dc]at h16
  have hr : rgsM a b = false := rgsM_no (by rintro ⟨j, k, q1, q2, q3⟩; exact q3 (hno j k (by omega) q2))
  refine .exit ?_
  refine hK2 _ ?_
  refine .q ?_
  refine .ret ?_
  exact hK _ _ _ _ trivial ((Fin.m).cast (by rw [hr]))
end

end Go.Proofs.YtgeecahbahgjbaaGreat

/- Walks: rings, by the reference. -/
namespace Go.Proofs.YtgeecahbahgjbaaGreat
open Go Go.RowKit
set_option linter.unusedSimpArgs false
set_option linter.unusedVariables false
set_option maxRecDepth 100000
attribute [local simp] szT2 byT2 agT2 unT2 zoT2 szT3 byT3 agT3 unT3 zoT3 szT38 byT38 agT38 flT38 fdT38_0 fdT38_1 zoT38 szT40 byT40 agT40 flT40 fdT40_0 fdT40_1 zoT40 szT41 byT41 agT41 elT41 unT41 zoT41 szT43 byT43 agT43 flT43 fdT43_0 zoT43 szT127 byT127 agT127 flT127 fdT127_0 fdT127_1 zoT127 szT129 byT129 agT129 flT129 fdT129_0 fdT129_1 fdT129_2 zoT129

theorem l4V_k {u v : Sg} (gu : u.good = true) (gv : v.good = true) : ∃ (b1 b2 b3 c1 c2 c3 : Bool) (s1 s2 s3 t1 t2 t3 : AV), l4V u v = .tup [.int .i64 (meetI u v).1, .agg [.bool b1, s1, .bool b2, s2, .bool b3, s3], .agg [.bool c1, t1, .bool c2, t2, .bool c3, t3]] ∧ avOne s1 = true ∧ avOne s2 = true ∧ avOne s3 = true ∧ avOne t1 = true ∧ avOne t2 = true ∧ avOne t3 = true := by
  have e := meet_eq gu gv
  rw [e]
  unfold l4V meetS linP z3 l3A l3C
  have ow : ∀ x, avOne (Wd .u32 (dg x)) = true := fun x => rfl
  have on : avOne .nsl = true := rfl
  by_cases h0 : crs u.a u.b v.a = 0 ∧ crs u.a u.b v.b = 0
  · rw [if_pos h0, if_pos h0]
    by_cases h1 : lsS (highS u v) (lowS u v) = true
    · rw [if_pos h1, if_pos h1]; exact ⟨_, _, _, _, _, _, _, _, _, _, _, _, rfl, on, on, on, on, on, on⟩
    · rw [if_neg h1, if_neg h1]
      by_cases h2 : lowS u v = highS u v
      · rw [if_pos h2, if_pos h2]; exact ⟨_, _, _, _, _, _, _, _, _, _, _, _, rfl, ow _, ow _, ow _, on, on, on⟩
      · rw [if_neg h2, if_neg h2]; exact ⟨_, _, _, _, _, _, _, _, _, _, _, _, rfl, ow _, ow _, ow _, ow _, ow _, ow _⟩
  · rw [if_neg h0, if_neg h0]
    by_cases h1 : noWay u v = true
    · rw [if_pos h1, if_pos h1]; exact ⟨_, _, _, _, _, _, _, _, _, _, _, _, rfl, on, on, on, on, on, on⟩
    · rw [if_neg h1, if_neg h1]; exact ⟨_, _, _, _, _, _, _, _, _, _, _, _, rfl, ow _, ow _, ow _, on, on, on⟩

section
attribute [local simp] Sp.av Sp.cells Sg.av Sg.cells
set_option maxHeartbeats 1000000 in
theorem l5Side_fc (r : List Sp) (i : Nat) (hi' : i < r.length) (hl : r.length ≤ 1099511627776) : FC Tryz.prog 107 [.agg [.isl (r.map Sp.cells)], .int .i64 (i : Int)] (.agg [.int .i64 (sd r i).a.x, .int .i64 (sd r i).a.y, .int .i64 (sd r i).b.x, .int .i64 (sd r i).b.y]) := by
 have hat := rg_at hi'
 obtain ⟨j, hj⟩ : ∃ j : Nat, j = (i + 1) % r.length := ⟨_, rfl⟩
 have hjl : j < r.length := by rw [hj]; exact nx1_lt hi'
 have htm : Int.tmod ((i : Int) + 1) (r.length : Int) = (j : Int) := by rw [hj]; exact ite_tmod hi'
 have hat2 := rg_at hjl
 have hnj : gs r j = nx1 r i := by rw [hj]; rfl
 have hne : ¬ r = [] := by intro h; rw [h] at hi'; simp at hi'
 have hsd : sd r i = segO (gs r i) (gs r j) := by rw [hnj]; rfl
 refine .b Tryz.func107 31 (fun nx K hK => ?_) (hi := by simp [idfL, idf, idfLL_iff, Sp.av, Sp.cells, Sg.av, Sg.cells])
 refine .q ?_
 refine .q ?_ (by simp (disch := first|omega|(simp only[ln];omega)) [if_pos, hat, List.length_map]; rfl)
 refine .sq fun K3 hK3 => ?_
 refine .df 11 ?_ (by simp (disch := first|omega|(simp only[ln];omega)) [runDf.eq_def, runF1, runF2, stepF.eq_def, updo.eq_def, hupo.eq_def, opSto1.eq_def, if_pos, hat2, htm, hne, List.length_map]; rfl)
 refine hK3 _ ?_
 refine .sq fun K4 hK4 => ?_
 refine .sq fun K5 hK5 => ?_
 refine .region ?_
 refine .kf 2 (l4Less_fc (gs r j) (gs r i)) hb191 ?_
 refine .nil ?_
 refine hK5 _ ?_
 refine .c (t := lsS (gs r j) (gs r i)) (fun h24 => ?_) (fun h24 => ?_)
 ·try simp only[dc]at h24
  refine .q ?_
  refine .ret ?_
  exact hK _ _ _ _ trivial ((Fin.mk (by simp (disch := omega) [aRes, aResL, aRes1]; rfl)).cast (by rw [hsd]; unfold segO; rw [if_pos h24]))
 ·try simp only[dc]at h24
  refine .skip ?_
  refine hK4 _ ?_
  refine .q ?_
  refine .ret ?_
  exact hK _ _ _ _ trivial ((Fin.mk (by simp (disch := omega) [aRes, aResL, aRes1]; rfl)).cast (by rw [hsd]; unfold segO; rw [h24]; rfl))
set_option maxHeartbeats 4000000 in
theorem ringFaultS_fc (r : List Sp) (hl : r.length ≤ 1099511627776) : FC Tryz.prog 23 [.agg [.isl (r.map Sp.cells)]] (.int .i64 (rgF r : Int)) := by
 refine .b Tryz.func23 101 (fun nx K hK => ?_) (hi := by simp [idfL, idf, idfLL_iff, Sp.av, Sp.cells, Sg.av, Sg.cells])
 refine .q ?_
 refine .q ?_ (by simp (disch := first|omega|(simp only[ln];omega)) [List.length_map]; rfl)
 refine .sq fun K3 hK3 => ?_
 refine .q ?_
 refine .c (t := decide ((r.length : Int) < 3)) (fun h17 => ?_) (fun h17 => ?_)
 ·try simp only[dc]at h17
  refine .q ?_
  refine .ret ?_
  exact hK _ _ _ _ trivial ((Fin.m).cast (by rw [rgF_few (by omega)]))
 ·try simp only[dc]at h17
  refine .skip ?_
  refine hK3 _ ?_
  refine .sq fun K6 hK6 => ?_
  refine .q ?_
  refine .c (t := decide (12 < (r.length : Int))) (fun h19 => ?_) (fun h19 => ?_)
  ·try simp only[dc]at h19
   refine .q ?_
   refine .ret ?_
   exact hK _ _ _ _ trivial ((Fin.m).cast (by rw [rgF_many (by omega)]))
  ·try simp only[dc]at h19
   have h3 : ¬ r.length < 3 := by omega
   have h12 : ¬ 12 < r.length := by omega
   refine .skip ?_
   refine hK6 _ ?_
   refine .sq fun K9 hK9 => ?_
   refine .q ?_
   refine .block ?_
   
   refine .loop (fun N s => ∃ i : Nat, N = r.length - i ∧ i ≤ r.length ∧ (∀ j, j < i → (gs r j).good = true) ∧ s.env 1 = .ptr nx 0 0 ∧ s.env 3 = .int .i64 (r.length : Int) ∧ s.env 4 = .int .i64 (i : Int) ∧ s.heap nx = some (1, [[.isl (r.map Sp.cells)]]) ∧ nx < s.nx ∧ s.nt = 101) (r.length) (by refine ⟨0, by omega, by omega, fun j h => by omega, ?_, ?_, ?_, ?_, ?_, rfl⟩ <;> first|(simp (disch := omega);done)|omega|(simp;done)|(simp;omega)) ?_
   rintro N ⟨e, H, mm, nt⟩ ⟨i, rfl, hi, hgd, g1, g3, g4, Hr, xr, rfl⟩
   simp only [] at g1 g3 g4 Hr xr
   refine .sq fun K11 hK11 => ?_
   refine .q ?_ (by simp (disch := first|omega|(simp only[ln];omega)) [g3, g4]; rfl)
   refine .c (fun h22 => ?_) (fun h22 => ?_)
   ·try simp only[dc]at h22
    have hi' : i < r.length := by omega
    have hat := rg_at hi'
    refine .skip ?_
    refine hK11 _ ?_
    refine .sq fun K13 hK13 => ?_
    refine .block ?_
    refine .sq fun K14 hK14 => ?_
    refine .region ?_
    refine .kf 5 (spotOkS_fc (gs r i)) hb105 ?_ (by simp (disch := first|omega|(simp only[ln];omega)) [List.take_succ_cons, List.take_zero, if_pos, g1, g4, Hr, hat, List.length_map]; rfl) (ha := by simp (disch := first|omega|(simp only[ln];omega)) [idf_Wd', if_pos, g1, g4, Hr, hat, List.length_map])
    refine .e ?_ (by simp (disch := first|omega|(simp only[ln];omega)) [if_pos, g1, g4, Hr, hat, List.length_map]; rfl)
    refine hK14 _ ?_
    refine .c (t := !(gs r i).good) (fun h31 => ?_) (fun h31 => ?_)
    ·try simp only[dc]at h31
     have hb : ¬ (gs r i).good = true := by simpa using h31
     refine .q ?_
     refine .ret ?_
     exact hK _ _ _ _ trivial ((Fin.m).cast (by rw [rgF_coord h3 h12 (gs_mem hi') hb]))
    ·try simp only[dc]at h31
     have hg1 : (gs r i).good = true := by simpa using h31
     refine .skip ?_
     refine hK13 _ ?_
     refine .r ?_ (by simp (disch := first|omega|(simp only[ln];omega)) [g4]; rfl)
     refine ⟨r.length - (i + 1), by omega, i + 1, rfl, by omega, fun j h => by rcases Nat.lt_succ_iff_lt_or_eq.1 h with h | h; exact hgd j h; rw [h]; exact hg1, ?_, ?_, ?_, ?_, ?_, rfl⟩ <;> first|(simp (disch := omega) [g1, g3, g4, Hr];done)|omega|(simp;done)|(simp;omega)
   ·try simp only[dc]at h22
    have hG : spsGood r := spsGood_of (by omega) hgd
    clear hgd
    refine .exit ?_
    refine hK9 _ ?_
    refine .sq fun K16 hK16 => ?_
    refine .q ?_
    refine .block ?_
    
    refine .loop (fun N s => ∃ i : Nat, N = r.length - i ∧ i ≤ r.length ∧ (∀ j k, k < j → j < i → gs r j ≠ gs r k) ∧ s.env 1 = .ptr nx 0 0 ∧ s.env 3 = .int .i64 (r.length : Int) ∧ s.env 5 = .int .i64 (i : Int) ∧ s.heap nx = some (1, [[.isl (r.map Sp.cells)]]) ∧ nx < s.nx ∧ s.nt = 101) (r.length) (by refine ⟨0, by omega, by omega, fun j k h h' => by omega, ?_, ?_, ?_, ?_, ?_, rfl⟩ <;> first|(simp (disch := omega) [g1, g3, Hr];done)|omega|(simp;done)|(simp;omega)) ?_
    clear g1 g3 g4 Hr
    rintro N ⟨e, H, mm, nt⟩ ⟨i, rfl, hi, hnd, g1, g3, g5, Hr, xr, rfl⟩
    simp only [] at g1 g3 g5 Hr xr
    refine .sq fun K18 hK18 => ?_
    refine .q ?_ (by simp (disch := first|omega|(simp only[ln];omega)) [g3, g5]; rfl)
    refine .c (fun h34 => ?_) (fun h34 => ?_)
    ·try simp only[dc]at h34
     have hi' : i < r.length := by omega
     have hat := rg_at hi'
     refine .skip ?_
     refine hK18 _ ?_
     refine .sq fun K20 hK20 => ?_
     refine .block ?_
     refine .q ?_
     refine .block ?_
     
     refine .loop (fun N s => ∃ k : Nat, N = i - k ∧ k ≤ i ∧ (∀ k', k' < k → gs r i ≠ gs r k') ∧ s.env 1 = .ptr nx 0 0 ∧ s.env 3 = .int .i64 (r.length : Int) ∧ s.env 5 = .int .i64 (i : Int) ∧ s.env 6 = .int .i64 (k : Int) ∧ s.heap nx = some (1, [[.isl (r.map Sp.cells)]]) ∧ nx < s.nx ∧ s.nt = 101) (i) (by refine ⟨0, by omega, by omega, fun j h => by omega, ?_, ?_, ?_, ?_, ?_, ?_, rfl⟩ <;> first|(simp (disch := omega) [g1, g3, g5, Hr];done)|omega|(simp;done)|(simp;omega)) ?_
     clear g1 g3 g5 Hr
     rintro N ⟨e, H, mm, nt⟩ ⟨k, rfl, hk, hk2, g1, g3, g5, g6, Hr, xr, rfl⟩
     simp only [] at g1 g3 g5 g6 Hr xr
     refine .sq fun K22 hK22 => ?_
     refine .q ?_ (by simp (disch := first|omega|(simp only[ln];omega)) [g5, g6]; rfl)
     refine .c (fun h39 => ?_) (fun h39 => ?_)
     ·try simp only[dc]at h39
      have hk' : k < i := by omega
      have hatk := rg_at (show k < r.length by omega)
      refine .skip ?_
      refine hK22 _ ?_
      refine .sq fun K24 hK24 => ?_
      refine .block ?_
      refine .sq fun K25 hK25 => ?_
      refine .df 11 ?_ (by simp (disch := first|omega|(simp only[ln];omega)) [runDf.eq_def, runF1, runF2, stepF.eq_def, updo.eq_def, hupo.eq_def, opSto1.eq_def, if_pos, g1, g5, g6, Hr, hat, hatk, eqW2, List.length_map]; rfl)
      refine hK25 _ ?_
      refine .c (t := decide (gs r i = gs r k)) (fun h52 => ?_) (fun h52 => ?_)
      ·try simp only[dc]at h52
       refine .q ?_
       refine .ret ?_
       exact hK _ _ _ _ trivial ((Fin.m).cast (by rw [rgF_twice h3 h12 hG ⟨i, k, hk', hi', h52⟩]))
      ·try simp only[dc]at h52
       have hne1 := h52
       refine .skip ?_
       refine hK24 _ ?_
       refine .r ?_ (by simp (disch := first|omega|(simp only[ln];omega)) [g6]; rfl)
       refine ⟨i - (k + 1), by omega, k + 1, rfl, by omega, fun j h => by rcases Nat.lt_succ_iff_lt_or_eq.1 h with h | h; exact hk2 j h; rw [h]; exact hne1, ?_, ?_, ?_, ?_, ?_, ?_, rfl⟩ <;> first|(simp (disch := omega) [g1, g3, g5, g6, Hr];done)|omega|(simp;done)|(simp;omega)
     ·try simp only[dc]at h39
      have hn1 : ∀ k', k' < i → gs r i ≠ gs r k' := fun k' h => hk2 k' (by omega)
      refine .exit ?_
      refine hK20 _ ?_
      refine .r ?_ (by simp (disch := first|omega|(simp only[ln];omega)) [g5]; rfl)
      refine ⟨r.length - (i + 1), by omega, i + 1, rfl, by omega, fun j k h h' => by rcases Nat.lt_succ_iff_lt_or_eq.1 h' with h' | h'; exact hnd j k h h'; rw [h']; exact hn1 k (by omega), ?_, ?_, ?_, ?_, ?_, rfl⟩ <;> first|(simp (disch := omega) [g1, g3, g5, Hr];done)|omega|(simp;done)|(simp;omega)
    ·try simp only[dc]at h34
     have hD : ¬ rgDup r := by rintro ⟨j, k, q1, q2, q3⟩; exact hnd j k q1 (by omega) q3
     clear hnd
     refine .exit ?_
     refine hK16 _ ?_
     refine .sq fun K27 hK27 => ?_
     refine .q ?_
     refine .block ?_
     
     refine .loop (fun N s => ∃ i : Nat, N = r.length - i ∧ i ≤ r.length ∧ (∀ j k, k < j → j < i → ¬ badS r j k) ∧ s.env 1 = .ptr nx 0 0 ∧ s.env 3 = .int .i64 (r.length : Int) ∧ s.env 7 = .int .i64 (i : Int) ∧ s.heap nx = some (1, [[.isl (r.map Sp.cells)]]) ∧ nx < s.nx ∧ s.nt = 101) (r.length) (by refine ⟨0, by omega, by omega, fun j k h h' => by omega, ?_, ?_, ?_, ?_, ?_, rfl⟩ <;> first|(simp (disch := omega) [g1, g3, Hr];done)|omega|(simp;done)|(simp;omega)) ?_
     clear g1 g3 g5 Hr
     rintro N ⟨e, H, mm, nt⟩ ⟨i, rfl, hi, hok, g1, g3, g7, Hr, xr, rfl⟩
     simp only [] at g1 g3 g7 Hr xr
     refine .sq fun K29 hK29 => ?_
     refine .q ?_ (by simp (disch := first|omega|(simp only[ln];omega)) [g3, g7]; rfl)
     refine .c (fun h55 => ?_) (fun h55 => ?_)
     ·try simp only[dc]at h55
      have hi' : i < r.length := by omega
      have gi := sd_good (by omega) hG hD hi'
      refine .skip ?_
      refine hK29 _ ?_
      refine .sq fun K31 hK31 => ?_
      refine .block ?_
      refine .q ?_
      refine .block ?_
      
      refine .loop (fun N s => ∃ k : Nat, N = i - k ∧ k ≤ i ∧ (∀ k', k' < k → ¬ badS r i k') ∧ s.env 1 = .ptr nx 0 0 ∧ s.env 3 = .int .i64 (r.length : Int) ∧ s.env 7 = .int .i64 (i : Int) ∧ s.env 8 = .int .i64 (k : Int) ∧ s.heap nx = some (1, [[.isl (r.map Sp.cells)]]) ∧ nx < s.nx ∧ s.nt = 101) (i) (by refine ⟨0, by omega, by omega, fun j h => by omega, ?_, ?_, ?_, ?_, ?_, ?_, rfl⟩ <;> first|(simp (disch := omega) [g1, g3, g7, Hr];done)|omega|(simp;done)|(simp;omega)) ?_
      clear g1 g3 g7 Hr
      rintro N ⟨e, H, mm, nt⟩ ⟨k, rfl, hk, hk2, g1, g3, g7, g8, Hr, xr, rfl⟩
      simp only [] at g1 g3 g7 g8 Hr xr
      refine .sq fun K33 hK33 => ?_
      refine .q ?_ (by simp (disch := first|omega|(simp only[ln];omega)) [g7, g8]; rfl)
      refine .c (fun h60 => ?_) (fun h60 => ?_)
      ·try simp only[dc]at h60
       have hk' : k < i := by omega
       have hki : k < r.length := by omega
       have gk := sd_good (by omega) hG hD hki
       have hmt := l4Meet_fc (sd r i) (sd r k) gi gk
       obtain ⟨b1, b2, b3, c1, c2, c3, s1, s2, s3, t1, t2, t3, h4V, ones⟩ := l4V_k gi gk
       obtain ⟨o1, o2, o3, o4, o5, o6⟩ := ones
       rw [h4V] at hmt
       obtain ⟨M, hM⟩ : ∃ M, meetI (sd r i) (sd r k) = M := ⟨_, rfl⟩
       rw [hM] at hmt
       have hbd : badS r i k ↔ ((nxt r.length i k ∧ M.1 ≠ 1) ∨ (¬ nxt r.length i k ∧ M.1 ≠ 0)) := by have := bad_iff (by omega) hG hD hk' hi'; unfold badS; rw [this]; unfold mkd; rw [hM]
       refine .skip ?_
       refine hK33 _ ?_
       refine .sq fun K35 hK35 => ?_
       refine .block ?_
       refine .sq fun K36 hK36 => ?_
       refine .old fun hold => ?_
       refine .d 13 ?_
       refine .k 2 (fun fs37 hfs37 => ?_) (by simp (disch := first|omega|(simp only[ln];omega)) [runDf.eq_def, runF1, runF2, stepF.eq_def, updo.eq_def, hupo.eq_def, opSto1.eq_def, List.take_succ_cons, List.take_zero, g1, g7, g8, Hr, o1, o2, o3, o4, o5, o6]; rfl)
       refine .f (l5Side_fc r i hi' hl) hb107 ?_ (ha := by simp (disch := first|omega|(simp only[ln];omega)) [idf_Wd', g1, g7, g8, Hr, o1, o2, o3, o4, o5, o6])
       refine .k 2 (fun fs38 hfs38 => ?_) (by simp (disch := first|omega|(simp only[ln];omega)) [runDf.eq_def, runF1, runF2, stepF.eq_def, updo.eq_def, hupo.eq_def, opSto1.eq_def, List.take_succ_cons, List.take_zero, g1, g7, g8, Hr, o1, o2, o3, o4, o5, o6]; rfl)
       refine .f (l5Side_fc r k hki hl) hb107 ?_ (ha := by simp (disch := first|omega|(simp only[ln];omega)) [idf_Wd', g1, g7, g8, Hr, o1, o2, o3, o4, o5, o6])
       refine .f hmt hb106 ?_ (ha := by simp (disch := first|omega|(simp only[ln];omega)) [idf_Wd', g1, g7, g8, Hr, o1, o2, o3, o4, o5, o6])
       refine .k 3 (fun fs39 hfs39 => ?_) (by simp (disch := first|omega|(simp only[ln];omega)) [runDf.eq_def, runF1, runF2, stepF.eq_def, updo.eq_def, hupo.eq_def, opSto1.eq_def, List.take_succ_cons, List.take_zero, g1, g7, g8, Hr, o1, o2, o3, o4, o5, o6]; rfl)
       refine DP.runF1q (by simp (disch := first|omega|(simp only[ln];omega)) [runDf.eq_def, runF1, runF2, stepF.eq_def, updo.eq_def, hupo.eq_def, opSto1.eq_def, g1, g7, g8, Hr, o1, o2, o3, o4, o5, o6]; rfl) fun fq40 hfq40 => ?_
       simp [qids, asksB, Op.operands, topId] at hfq40
       simp only [updo]
       refine .k 2 (fun fs41 hfs41 => ?_) (by simp (disch := first|omega|(simp only[ln];omega)) [runDf.eq_def, runF1, runF2, stepF.eq_def, updo.eq_def, hupo.eq_def, opSto1.eq_def, List.take_succ_cons, List.take_zero, g1, g7, g8, Hr, o1, o2, o3, o4, o5, o6]; rfl)
       refine DQ.asg1 _ rfl rfl ?_
       simp only [updo]
       refine DQ.sto1 (m := 13) [10] _ (by simp (disch := first|omega|(simp only[ln];omega)) [runDf.eq_def, runF1, runF2, stepF.eq_def, updo.eq_def, hupo.eq_def, opSto1.eq_def, g1, g7, g8, Hr, o1, o2, o3, o4, o5, o6]; rfl) rfl (by simp only[ln, hfs37, hfs38, hfs39, hfs41];omega) (by kernel_rfl) (by intro k f hk hex; simp only [List.mem_cons, List.not_mem_nil, or_false] at hex; rcases hex with rfl <;> (simp [List.getElem?_append, hfs37, hfs38, hfs39, hfs41] at hk; subst hk; refine ⟨?_, by first | omega | (simp; done) | (simp; omega)⟩; simp [qids, asksB, Op.operands, Call.operands, topId, numS, numI, Wd, hfq40, g1, g7, g8]; try omega)) ?_
       try simp only []
       refine DQ.sto1 (m := 13) [] _ (by simp (disch := first|omega|(simp only[ln];omega)) [runDf.eq_def, runF1, runF2, stepF.eq_def, updo.eq_def, hupo.eq_def, opSto1.eq_def, g1, g7, g8, Hr, o1, o2, o3, o4, o5, o6]; rfl) rfl (by simp only[ln, hfs37, hfs38, hfs39, hfs41];omega) (by kernel_rfl) (by intro k f hk hex; simp only [List.not_mem_nil] at hex) ?_
       try simp only []
       refine hK36 _ ?_
       refine .sq fun K42 hK42 => ?_
       have J42 : ∀ s : St, (∃ nb : Bool, (nb = true ↔ nxt r.length i k) ∧ s.env 1 = .ptr nx 0 0 ∧ s.env 3 = .int .i64 (r.length : Int) ∧ s.env 7 = .int .i64 (i : Int) ∧ s.env 8 = .int .i64 (k : Int) ∧ s.env 9 = .int .i64 (M.1 : Int) ∧ s.env 12 = .bool nb ∧ s.heap nx = some (1, [[.isl (r.map Sp.cells)]]) ∧ nx < s.nx ∧ s.nt = 101) → K42 s := by
        clear g1 g3 g7 g8 Hr xr
        rintro ⟨e, H, mm, nt⟩ ⟨nb, hnb, g1, g3, g7, g8, g9, g12, Hr, xr, rfl⟩
        simp only [] at g1 g3 g7 g8 g9 g12 Hr xr
        refine hK42 _ ?_
        refine .sq fun K43 hK43 => ?_
        cases hnbv : nb
        ·have hnn : ¬ nxt r.length i k := fun h => by have := hnb.2 h; rw [hnbv] at this; simp at this
         refine .r ?_ (by simp (disch := first|omega|(simp only[ln];omega)) [g9, g12, hnbv]; rfl)
         refine hK43 _ ?_
         refine .c (t := M.1 != 0) (fun h100 => ?_) (fun h100 => ?_) (by simp (disch := first|omega|(simp only[ln];omega)) [bne])
         ·try simp only[dc]at h100
          have m0 : M.1 ≠ 0 := by simpa using h100
          have hbad : badS r i k := hbd.2 (.inr ⟨hnn, m0⟩)
          refine .q ?_
          refine .ret ?_
          exact hK _ _ _ _ trivial ((Fin.m).cast (by rw [rgF_cross h3 h12 hG hD ⟨i, k, hk', hi', hbad⟩]))
         ·try simp only[dc]at h100
          have m0 : M.1 = 0 := by simpa using h100
          have hnbad : ¬ badS r i k := fun h => by rcases hbd.1 h with h | h; exact hnn h.1; exact h.2 m0
          refine .skip ?_
          refine hK35 _ ?_
          refine .r ?_ (by simp (disch := first|omega|(simp only[ln];omega)) [g8]; rfl)
          refine ⟨i - (k + 1), by omega, k + 1, rfl, by omega, fun j h => by rcases Nat.lt_succ_iff_lt_or_eq.1 h with h | h; exact hk2 j h; rw [h]; exact hnbad, ?_, ?_, ?_, ?_, ?_, ?_, rfl⟩ <;> first|(simp (disch := omega) [g1, g3, g7, g8, Hr];done)|omega|(simp;done)|(simp;omega)
        ·have hnn := hnb.1 hnbv
         by_cases m1 : M.1 = 1
         ·have d1 : (M.1 != 1) = false := by simp [m1]
          refine .r ?_ (by simp (disch := first|omega|(simp only[ln];omega)) [g9, g12, hnbv, d1]; rfl)
          refine hK43 _ ?_
          refine .c (fun h100 => ?_) (fun h100 => ?_)
          ·simp at h100
          ·try simp only[dc]at h100
           have hnbad : ¬ badS r i k := fun h => by rcases hbd.1 h with h | h; exact h.2 m1; exact h.1 hnn
           refine .skip ?_
           refine hK35 _ ?_
           refine .r ?_ (by simp (disch := first|omega|(simp only[ln];omega)) [g8]; rfl)
           refine ⟨i - (k + 1), by omega, k + 1, rfl, by omega, fun j h => by rcases Nat.lt_succ_iff_lt_or_eq.1 h with h | h; exact hk2 j h; rw [h]; exact hnbad, ?_, ?_, ?_, ?_, ?_, ?_, rfl⟩ <;> first|(simp (disch := omega) [g1, g3, g7, g8, Hr];done)|omega|(simp;done)|(simp;omega)
         ·have d1 : (M.1 != 1) = true := by simp [m1]
          refine .r ?_ (by simp (disch := first|omega|(simp only[ln];omega)) [g9, g12, hnbv, d1]; rfl)
          refine hK43 _ ?_
          refine .c (fun h100 => ?_) (fun h100 => ?_)
          ·try simp only[dc]at h100
           have hbad : badS r i k := hbd.2 (.inl ⟨hnn, m1⟩)
           refine .q ?_
           refine .ret ?_
           exact hK _ _ _ _ trivial ((Fin.m).cast (by rw [rgF_cross h3 h12 hG hD ⟨i, k, hk', hi', hbad⟩]))
          ·simp at h100
       by_cases q1 : (k : Int) = (i : Int) - 1
       ·have c1 : ((k : Int) == (i : Int) - 1) = true := by simp [q1]
        refine .r ?_ (by simp (disch := first|omega|(simp only[ln];omega)) [g1, g3, g7, g8, Hr, c1]; rfl)
        refine J42 _ ?_
        refine ⟨true, ⟨fun _ => .inl (by omega), fun _ => rfl⟩, ?_, ?_, ?_, ?_, ?_, ?_, ?_, ?_, rfl⟩ <;> first|(simp (disch := omega) [g1, g3, g7, g8, Hr];done)|omega|(simp;done)|(simp;omega)
       ·have c1 : ((k : Int) == (i : Int) - 1) = false := by simp [q1]
        by_cases q2 : k = 0
        ·have c2 : ((k : Int) == 0) = true := by simp [q2]
         have c2' : (k == 0) = true := by simp [q2]
         by_cases q3 : (i : Int) = (r.length : Int) - 1
         ·have c3 : ((i : Int) == (r.length : Int) - 1) = true := by simp [q3]
          refine .r ?_ (by simp (disch := first|omega|(simp only[ln];omega)) [g1, g3, g7, g8, Hr, c1, c2, c2', c3]; rfl)
          refine J42 _ ?_
          refine ⟨true, ⟨fun _ => .inr ⟨by omega, by omega⟩, fun _ => rfl⟩, ?_, ?_, ?_, ?_, ?_, ?_, ?_, ?_, rfl⟩ <;> first|(simp (disch := omega) [g1, g3, g7, g8, Hr];done)|omega|(simp;done)|(simp;omega)
         ·have c3 : ((i : Int) == (r.length : Int) - 1) = false := by simp [q3]
          refine .r ?_ (by simp (disch := first|omega|(simp only[ln];omega)) [g1, g3, g7, g8, Hr, c1, c2, c2', c3]; rfl)
          refine J42 _ ?_
          refine ⟨false, ⟨fun h => by simp at h, fun h => by rcases h with h | ⟨h, h'⟩ <;> omega⟩, ?_, ?_, ?_, ?_, ?_, ?_, ?_, ?_, rfl⟩ <;> first|(simp (disch := omega) [g1, g3, g7, g8, Hr];done)|omega|(simp;done)|(simp;omega)
        ·have c2 : ((k : Int) == 0) = false := by simp; omega
         have c2' : (k == 0) = false := by simp; omega
         refine .r ?_ (by simp (disch := first|omega|(simp only[ln];omega)) [g1, g3, g7, g8, Hr, c1, c2, c2']; rfl)
         refine J42 _ ?_
         refine ⟨false, ⟨fun h => by simp at h, fun h => by rcases h with h | ⟨h, h'⟩ <;> omega⟩, ?_, ?_, ?_, ?_, ?_, ?_, ?_, ?_, rfl⟩ <;> first|(simp (disch := omega) [g1, g3, g7, g8, Hr];done)|omega|(simp;done)|(simp;omega)
      ·try simp only[dc]at h60
       have hn1 : ∀ k', k' < i → ¬ badS r i k' := fun k' h => hk2 k' (by omega)
       refine .exit ?_
       refine hK31 _ ?_
       refine .r ?_ (by simp (disch := first|omega|(simp only[ln];omega)) [g7]; rfl)
       refine ⟨r.length - (i + 1), by omega, i + 1, rfl, by omega, fun j k h h' => by rcases Nat.lt_succ_iff_lt_or_eq.1 h' with h' | h'; exact hok j k h h'; rw [h']; exact hn1 k (by omega), ?_, ?_, ?_, ?_, ?_, rfl⟩ <;> first|(simp (disch := omega) [g1, g3, g7, Hr];done)|omega|(simp;done)|(simp;omega)
     ·try simp only[dc]at h55
      have hX : ¬ rgX r := by rintro ⟨j, k, q1, q2, q3⟩; exact hok j k q1 (by omega) q3
      refine .exit ?_
      refine hK27 _ ?_
      refine .q ?_
      refine .ret ?_
      exact hK _ _ _ _ trivial ((Fin.m).cast (by rw [rgF_ok h3 h12 hG hD hX]))
set_option maxHeartbeats 2000000 in
theorem l5Meet_fc (a b : List Sp) (za : rgF a = 0) (zb : rgF b = 0) : FC Tryz.prog 255 [.agg [.isl (a.map Sp.cells)], .agg [.isl (b.map Sp.cells)]] (.bool (rgsM a b)) := by
 obtain ⟨a1, a2, a3, a4, _⟩ := rgF_zero za
 obtain ⟨b1, b2, b3, b4, _⟩ := rgF_zero zb
 refine .b Tryz.func255 37 (fun nx K hK => ?_) (hi := by simp [idfL, idf, idfLL_iff, Sp.av, Sp.cells, Sg.av, Sg.cells])
 refine .q ?_
 refine .sq fun K2 hK2 => ?_
 refine .q ?_
 refine .block ?_
 
 refine .loop (fun N s => ∃ i : Nat, N = a.length - i ∧ i ≤ a.length ∧ (∀ i' k, i' < i → k < b.length → (meetI (sd a i') (sd b k)).1 = 0) ∧ s.env 2 = .ptr nx 0 0 ∧ s.env 3 = .ptr (nx + 1) 0 0 ∧ s.env 5 = .int .i64 (i : Int) ∧ s.heap nx = some (1, [[.isl (a.map Sp.cells)]]) ∧ nx < s.nx ∧ s.heap (nx + 1) = some (1, [[.isl (b.map Sp.cells)]]) ∧ (nx + 1) < s.nx ∧ s.nt = 37) (a.length) (by refine ⟨0, by omega, by omega, fun j k h _ => by omega, ?_, ?_, ?_, ?_, ?_, ?_, ?_, rfl⟩ <;> first|(simp (disch := omega);done)|omega|(simp;done)|(simp;omega)) ?_
 rintro N ⟨e, H, mm, nt⟩ ⟨i, rfl, hi, hno, g2, g3, g5, Ha, xa, Hb, xb, rfl⟩
 simp only [] at g2 g3 g5 Ha xa Hb xb
 refine .sq fun K4 hK4 => ?_
 refine .q ?_ (by simp (disch := first|omega|(simp only[ln];omega)) [g2, g5, Ha, List.length_map]; rfl)
 refine .c (fun h14 => ?_) (fun h14 => ?_)
 ·try simp only[dc]at h14
  have hi' : i < a.length := by omega
  have gi := sd_good (by omega) a3 a4 hi'
  refine .skip ?_
  refine hK4 _ ?_
  refine .sq fun K6 hK6 => ?_
  refine .block ?_
  refine .q ?_
  refine .block ?_
  
  refine .loop (fun N s => ∃ k : Nat, N = b.length - k ∧ k ≤ b.length ∧ (∀ k', k' < k → (meetI (sd a i) (sd b k')).1 = 0) ∧ s.env 2 = .ptr nx 0 0 ∧ s.env 3 = .ptr (nx + 1) 0 0 ∧ s.env 5 = .int .i64 (i : Int) ∧ s.env 6 = .int .i64 (k : Int) ∧ s.heap nx = some (1, [[.isl (a.map Sp.cells)]]) ∧ nx < s.nx ∧ s.heap (nx + 1) = some (1, [[.isl (b.map Sp.cells)]]) ∧ (nx + 1) < s.nx ∧ s.nt = 37) (b.length) (by refine ⟨0, by omega, by omega, fun j h => by omega, ?_, ?_, ?_, ?_, ?_, ?_, ?_, ?_, rfl⟩ <;> first|(simp (disch := omega) [g2, g3, g5, Ha, Hb];done)|omega|(simp;done)|(simp;omega)) ?_
  clear g2 g3 g5 Ha Hb
  rintro N ⟨e, H, mm, nt⟩ ⟨k, rfl, hk, hk2, g2, g3, g5, g6, Ha, xa, Hb, xb, rfl⟩
  simp only [] at g2 g3 g5 g6 Ha xa Hb xb
  refine .sq fun K8 hK8 => ?_
  refine .q ?_ (by simp (disch := first|omega|(simp only[ln];omega)) [g3, g6, Hb, List.length_map]; rfl)
  refine .c (fun h21 => ?_) (fun h21 => ?_)
  ·try simp only[dc]at h21
   have hk' : k < b.length := by omega
   have gk := sd_good (by omega) b3 b4 hk'
   have hmt := l4Meet_fc (sd a i) (sd b k) gi gk
   obtain ⟨b1, b2, b3, c1, c2, c3, s1, s2, s3, t1, t2, t3, h4V, ones⟩ := l4V_k gi gk
   obtain ⟨o1, o2, o3, o4, o5, o6⟩ := ones
   rw [h4V] at hmt
   obtain ⟨M, hM⟩ : ∃ M, meetI (sd a i) (sd b k) = M := ⟨_, rfl⟩
   rw [hM] at hmt
   refine .skip ?_
   refine hK8 _ ?_
   refine .sq fun K10 hK10 => ?_
   refine .block ?_
   refine .sq fun K11 hK11 => ?_
   refine .old fun hold => ?_
   refine .d 13 ?_
   refine .k 2 (fun fs12 hfs12 => ?_) (by simp (disch := first|omega|(simp only[ln];omega)) [runDf.eq_def, runF1, runF2, stepF.eq_def, updo.eq_def, hupo.eq_def, opSto1.eq_def, List.take_succ_cons, List.take_zero, g2, g3, g5, g6, Ha, Hb, o1, o2, o3, o4, o5, o6]; rfl)
   refine .f (l5Side_fc a i hi' (by omega)) hb107 ?_ (ha := by simp (disch := first|omega|(simp only[ln];omega)) [idf_Wd', g2, g3, g5, g6, Ha, Hb, o1, o2, o3, o4, o5, o6])
   refine .k 2 (fun fs13 hfs13 => ?_) (by simp (disch := first|omega|(simp only[ln];omega)) [runDf.eq_def, runF1, runF2, stepF.eq_def, updo.eq_def, hupo.eq_def, opSto1.eq_def, List.take_succ_cons, List.take_zero, g2, g3, g5, g6, Ha, Hb, o1, o2, o3, o4, o5, o6]; rfl)
   refine .f (l5Side_fc b k hk' (by omega)) hb107 ?_ (ha := by simp (disch := first|omega|(simp only[ln];omega)) [idf_Wd', g2, g3, g5, g6, Ha, Hb, o1, o2, o3, o4, o5, o6])
   refine .f hmt hb106 ?_ (ha := by simp (disch := first|omega|(simp only[ln];omega)) [idf_Wd', g2, g3, g5, g6, Ha, Hb, o1, o2, o3, o4, o5, o6])
   refine .k 3 (fun fs14 hfs14 => ?_) (by simp (disch := first|omega|(simp only[ln];omega)) [runDf.eq_def, runF1, runF2, stepF.eq_def, updo.eq_def, hupo.eq_def, opSto1.eq_def, List.take_succ_cons, List.take_zero, g2, g3, g5, g6, Ha, Hb, o1, o2, o3, o4, o5, o6]; rfl)
   refine DP.runF1q (by simp (disch := first|omega|(simp only[ln];omega)) [runDf.eq_def, runF1, runF2, stepF.eq_def, updo.eq_def, hupo.eq_def, opSto1.eq_def, g2, g3, g5, g6, Ha, Hb, o1, o2, o3, o4, o5, o6]; rfl) fun fq15 hfq15 => ?_
   simp [qids, asksB, Op.operands, topId] at hfq15
   simp only [updo]
   refine .k 2 (fun fs16 hfs16 => ?_) (by simp (disch := first|omega|(simp only[ln];omega)) [runDf.eq_def, runF1, runF2, stepF.eq_def, updo.eq_def, hupo.eq_def, opSto1.eq_def, List.take_succ_cons, List.take_zero, g2, g3, g5, g6, Ha, Hb, o1, o2, o3, o4, o5, o6]; rfl)
   refine DQ.asg1 _ rfl rfl ?_
   simp only [updo]
   refine DQ.sto1 (m := 13) [10] _ (by simp (disch := first|omega|(simp only[ln];omega)) [runDf.eq_def, runF1, runF2, stepF.eq_def, updo.eq_def, hupo.eq_def, opSto1.eq_def, g2, g3, g5, g6, Ha, Hb, o1, o2, o3, o4, o5, o6]; rfl) rfl (by simp only[ln, hfs12, hfs13, hfs14, hfs16];omega) (by kernel_rfl) (by intro k f hk hex; simp only [List.mem_cons, List.not_mem_nil, or_false] at hex; rcases hex with rfl <;> (simp [List.getElem?_append, hfs12, hfs13, hfs14, hfs16] at hk; subst hk; refine ⟨?_, by first | omega | (simp; done) | (simp; omega)⟩; simp [qids, asksB, Op.operands, Call.operands, topId, numS, numI, Wd, hfq15, g2, g3, g5, g6]; try omega)) ?_
   try simp only []
   refine DQ.sto1 (m := 13) [] _ (by simp (disch := first|omega|(simp only[ln];omega)) [runDf.eq_def, runF1, runF2, stepF.eq_def, updo.eq_def, hupo.eq_def, opSto1.eq_def, g2, g3, g5, g6, Ha, Hb, o1, o2, o3, o4, o5, o6]; rfl) rfl (by simp only[ln, hfs12, hfs13, hfs14, hfs16];omega) (by kernel_rfl) (by intro k f hk hex; simp only [List.not_mem_nil] at hex) ?_
   try simp only []
   refine hK11 _ ?_
   refine .q ?_
   refine .c (t := M.1 != 0) (fun h36 => ?_) (fun h36 => ?_) (by simp (disch := first|omega|(simp only[ln];omega)) [bne])
   ·try simp only[dc]at h36
    have hm1 : M.1 ≠ 0 := by simpa using h36
    have hr : rgsM a b = true := rgsM_yes ⟨i, k, hi', hk', by rw [hM]; exact hm1⟩
    refine .q ?_
    refine .ret ?_
    exact hK _ _ _ _ trivial ((Fin.m).cast (by rw [hr]))
   ·try simp only[dc]at h36
    have hm0 : (meetI (sd a i) (sd b k)).1 = 0 := by rw [hM]; simpa using h36
    refine .skip ?_
    refine hK10 _ ?_
    refine .r ?_ (by simp (disch := first|omega|(simp only[ln];omega)) [g6]; rfl)
    refine ⟨b.length - (k + 1), by omega, k + 1, rfl, by omega, fun j h => by rcases Nat.lt_succ_iff_lt_or_eq.1 h with h | h; exact hk2 j h; rw [h]; exact hm0, ?_, ?_, ?_, ?_, ?_, ?_, ?_, ?_, rfl⟩ <;> first|(simp (disch := omega) [g2, g3, g5, g6, Ha, Hb];done)|omega|(simp;done)|(simp;omega)
  ·try simp only[dc]at h21
   have hn1 : ∀ k, k < b.length → (meetI (sd a i) (sd b k)).1 = 0 := fun k' h => hk2 k' (by omega)
   refine .exit ?_
   refine hK6 _ ?_
   refine .r ?_ (by simp (disch := first|omega|(simp only[ln];omega)) [g5]; rfl)
   refine ⟨a.length - (i + 1), by omega, i + 1, rfl, by omega, fun j k h h' => by rcases Nat.lt_succ_iff_lt_or_eq.1 h with h | h; exact hno j k h h'; rw [h]; exact hn1 k h', ?_, ?_, ?_, ?_, ?_, ?_, ?_, rfl⟩ <;> first|(simp (disch := omega) [g2, g3, g5, Ha, Hb];done)|omega|(simp;done)|(simp;omega)
 ·try simp only[dc]at h14
  have hr : rgsM a b = false := rgsM_no (by rintro ⟨j, k, q1, q2, q3⟩; exact q3 (hno j k (by omega) q2))
  refine .exit ?_
  refine hK2 _ ?_
  refine .q ?_
  refine .ret ?_
  exact hK _ _ _ _ trivial ((Fin.m).cast (by rw [hr]))
end

end Go.Proofs.YtgeecahbahgjbaaGreat

/- Walks: FnExactRingFault, FnExactRingArea2, FnExactRingsMeet, walked. -/
namespace Go.Proofs.YtgeecahbahgjbaaGreat
open Go Go.RowKit
set_option linter.unusedSimpArgs false
set_option linter.unusedVariables false
set_option maxRecDepth 100000
attribute [local simp] szT2 byT2 agT2 unT2 zoT2 szT3 byT3 agT3 unT3 zoT3 szT38 byT38 agT38 flT38 fdT38_0 fdT38_1 zoT38 szT41 byT41 agT41 elT41 unT41 zoT41 szT43 byT43 agT43 flT43 fdT43_0 zoT43 szT153 byT153 agT153 elT153 unT153 zoT153 szT155 byT155 agT155 flT155 fdT155_0 zoT155 szT178 byT178 agT178 flT178 fdT178_0 fdT178_1 zoT178

def szN (len : Nat) (n : Int) : Int := if n - len < 0 then -1 else n - len
section
attribute [local simp] Sp.av Sp.cells Sg.av Sg.cells
theorem szSpotS_fc (l : List Sp) (n : Int) (h0 : 0 ≤ n) (h1 : n ≤ 9223372036854775807) (hl : l.length ≤ 9223372036854775807) : FC Tryz.prog 201 [.isl (l.map Sp.cells), .int .i64 n] (.int .i64 (szN l.length n)) := by
 refine .b Tryz.func201 12 (fun nx K hK => ?_) (hi := by simp [idfL, idf, idfLL_iff, Sp.av, Sp.cells, Sg.av, Sg.cells])
 refine .q ?_
 refine .q ?_ (by simp (disch := first|omega|(simp only[ln];omega)) [List.length_map]; rfl)
 refine .sq fun K3 hK3 => ?_
 refine .q ?_
 refine .c (t := decide (n - (l.length : Int) < 0)) (fun h10 => ?_) (fun h10 => ?_)
 ·try simp only[dc]at h10
  refine .q ?_
  refine .ret ?_
  exact hK _ _ _ _ trivial ((Fin.m).cast (by unfold szN; rw [if_pos h10]))
 ·try simp only[dc]at h10
  refine .skip ?_
  refine hK3 _ ?_
  refine .q ?_
  refine .ret ?_
  exact hK _ _ _ _ trivial ((Fin.m).cast (by unfold szN; rw [if_neg h10]))
end
set_option maxHeartbeats 1000000 in
theorem toSpotS_fc (l : List Sp) (hl : l.length ≤ 1048576) : FC Tryz.prog 203 [.isl (l.map Sp.cells)] (.isl (l.map Sp.cells)) := by
 refine .b Tryz.func203 23 (fun nx K hK => ?_) (hi := by simp [idfL, idf, idfLL_iff, Sp.av, Sp.cells, Sg.av, Sg.cells]) (hr := by simp [idf, idfL, idfLL_iff, Sp.cells, Sg.cells])
 refine .q ?_
 refine .q ?_ (by simp (disch := first|omega|(simp only[ln];omega)) [if_pos, List.length_map]; rfl)
 refine .sq fun K3 hK3 => ?_
 refine .q ?_
 refine .block ?_
 refine .loop (fun N s => ∃ i id : Nat, N = l.length - i ∧ i ≤ l.length ∧ s.env 0 = .isl (l.map Sp.cells) ∧ s.env 3 = .osl id 0 l.length ∧ s.env 4 = .int .i64 (i : Int) ∧ s.heap id = some (2, fillR Sp.cells [.int .i64 0, .int .i64 0] l i) ∧ s.nt = 23) (l.length) (⟨0, nx, by omega, by omega, by simp, by simp, by simp, by simp [← fillR_zero], rfl⟩) ?_
 rintro N ⟨e, H, mm, nt⟩ ⟨i, id, rfl, hi, h0, h3, h4, hH, rfl⟩
 simp only [] at h0 h3 h4 hH
 refine .sq fun K5 hK5 => ?_
 refine .q ?_ (by simp (disch := first|omega|(simp only[ln];omega)) [h0, h4, List.length_map]; rfl)
 refine .c (fun h11 => ?_) (fun h11 => ?_)
 ·try simp only[dc]at h11
  have hi' : i < l.length := by omega
  obtain ⟨p, hpi⟩ : ∃ p, l[i]? = some p := ⟨l[i], by simp [hi']⟩
  have hpm : (l.map Sp.cells)[i]? = some p.cells := by rw [List.getElem?_map, hpi]; rfl
  have fst := fillR_set Sp.cells [.int .i64 0, .int .i64 0] l hpi
  simp only [Sp.cells] at fst
  have fl := fillR_len Sp.cells [.int .i64 0, .int .i64 0] l hi
  have fg := fillR_getE Sp.cells [.int .i64 0, .int .i64 0] l hi'
  refine .skip ?_
  refine hK5 _ ?_
  refine .sq fun K7 hK7 => ?_
  refine .block ?_
  refine .region ?_
  refine .kf 6 (toSpot_fc p) hb221 ?_ (by simp (disch := first|omega|(simp only[ln];omega)) [List.take_succ_cons, List.take_zero, if_pos, h0, h3, h4, hH, fl, fg, hpm, Sp.cells, Sg.cells, Sp.av, Sg.av, List.length_map]; rfl) (ha := by simp (disch := first|omega|(simp only[ln];omega)) [idf_Wd', if_pos, h0, h3, h4, hH, fl, fg, hpm, Sp.cells, Sg.cells, Sp.av, Sg.av, List.length_map])
  refine .e ?_ (by simp (disch := first|omega|(simp only[ln];omega)) [if_pos, h0, h3, h4, hH, fl, fg, hpm, Sp.cells, Sg.cells, Sp.av, Sg.av, List.length_map]; rfl)
  refine hK7 _ ?_
  refine .r ?_ (by simp (disch := first|omega|(simp only[ln];omega)) [h4]; rfl)
  refine ⟨l.length - (i + 1), by omega, i + 1, id, rfl, by omega, by simp [h0], by simp [h3], by simp (disch := omega) [h4], by simp [fst], rfl⟩
 ·try simp only[dc]at h11
  have hin : i = l.length := by omega
  rw [hin, fillR_all] at hH
  refine .exit ?_
  refine hK3 _ ?_
  refine .q ?_ (by simp (disch := first|omega|(simp only[ln];omega)) [h3]; rfl)
  refine .ret ?_
  exact hK _ _ _ _ trivial (((Fin.mk (r := .osl id 0 l.length) (by simp [aRes, aResL, aRes1])).freeze (id := id) (z := 2) (es := l.map Sp.cells) (by simp [hH])).cast (fz_fill _ _ rfl))
section
attribute [local simp] Sp.av Sp.cells Sg.av Sg.cells
theorem eqSpot_fc (p : Sp) : FC Tryz.prog 207 [p.av, p.av] (.bool true) := by
 refine .b Tryz.func207 15 (fun nx K hK => ?_) (hi := by simp [idfL, idf, idfLL_iff, Sp.av, Sp.cells, Sg.av, Sg.cells])
 refine .q ?_
 refine .sq fun K2 hK2 => ?_
 refine .q ?_
 refine .c (fun h9 => ?_) (fun h9 => ?_)
 ·simp at h9
 ·try simp only[dc]at h9
  refine .skip ?_
  refine hK2 _ ?_
  refine .sq fun K4 hK4 => ?_
  refine .q ?_
  refine .c (fun h14 => ?_) (fun h14 => ?_)
  ·simp at h14
  ·try simp only[dc]at h14
   refine .skip ?_
   refine hK4 _ ?_
   refine .q ?_
   refine .ret ?_
   exact hK _ _ _ _ trivial ((Fin.m))
set_option maxHeartbeats 1000000 in
theorem eqSpotS_fc (l : List Sp) (hl : l.length ≤ 9223372036854775807) : FC Tryz.prog 208 [.isl (l.map Sp.cells), .isl (l.map Sp.cells)] (.bool true) := by
 refine .b Tryz.func208 27 (fun nx K hK => ?_) (hi := by simp [idfL, idf, idfLL_iff, Sp.av, Sp.cells, Sg.av, Sg.cells])
 refine .q ?_
 refine .sq fun K2 hK2 => ?_
 refine .q ?_ (by simp (disch := first|omega|(simp only[ln];omega)) [List.length_map]; rfl)
 refine .c (fun h10 => ?_) (fun h10 => ?_)
 ·simp at h10
 ·try simp only[dc]at h10
  refine .skip ?_
  refine hK2 _ ?_
  refine .sq fun K4 hK4 => ?_
  refine .q ?_
  refine .block ?_
  
  refine .loop (fun N s => ∃ i : Nat, N = l.length - i ∧ i ≤ l.length ∧ s.env 0 = .isl (l.map Sp.cells) ∧ s.env 1 = .isl (l.map Sp.cells) ∧ s.env 5 = .int .i64 (i : Int) ∧ s.nt = 27) (l.length) (by refine ⟨0, by omega, by omega, ?_, ?_, ?_, rfl⟩ <;> first|(simp (disch := omega);done)|omega|(simp;done)|(simp;omega)) ?_
  rintro N ⟨e, H, mm, nt⟩ ⟨i, rfl, hi, g0, g1, g5, rfl⟩
  simp only [] at g0 g1 g5
  refine .sq fun K6 hK6 => ?_
  refine .q ?_ (by simp (disch := first|omega|(simp only[ln];omega)) [g0, g5, List.length_map]; rfl)
  refine .c (fun h14 => ?_) (fun h14 => ?_)
  ·try simp only[dc]at h14
   have hi' : i < l.length := by omega
   obtain ⟨p, hpi⟩ : ∃ p, l[i]? = some p := ⟨l[i], by simp [hi']⟩
   have hpm : (l.map Sp.cells)[i]? = some p.cells := by rw [List.getElem?_map, hpi]; rfl
   refine .skip ?_
   refine hK6 _ ?_
   refine .sq fun K8 hK8 => ?_
   refine .block ?_
   refine .sq fun K9 hK9 => ?_
   refine .d 10 ?_
   refine .k 8 (fun fs10 hfs10 => ?_) (by simp (disch := first|omega|(simp only[ln];omega)) [runDf.eq_def, runF1, runF2, stepF.eq_def, updo.eq_def, hupo.eq_def, opSto1.eq_def, List.take_succ_cons, List.take_zero, if_pos, g0, g1, g5, hpm, List.length_map]; rfl)
   refine .f (eqSpot_fc p) hb207 ?_ (ha := by simp (disch := first|omega|(simp only[ln];omega)) [idf_Wd', if_pos, g0, g1, g5, hpm, List.length_map])
   refine .k 1 (fun fs11 hfs11 => ?_) (by simp (disch := first|omega|(simp only[ln];omega)) [runDf.eq_def, runF1, runF2, stepF.eq_def, updo.eq_def, hupo.eq_def, opSto1.eq_def, List.take_succ_cons, List.take_zero, if_pos, g0, g1, g5, hpm, List.length_map]; rfl)
   refine .r 10 (by simp only[ln, hfs10, hfs11];omega) ?_ (by simp (disch := first|omega|(simp only[ln];omega)) [runDf.eq_def, runF1, runF2, stepF.eq_def, updo.eq_def, hupo.eq_def, opSto1.eq_def, if_pos, g0, g1, g5, hpm, List.length_map]; rfl)
   refine hK9 _ ?_
   refine .c (fun h26 => ?_) (fun h26 => ?_)
   ·simp at h26
   ·try simp only[dc]at h26
    refine .skip ?_
    refine hK8 _ ?_
    refine .r ?_ (by simp (disch := first|omega|(simp only[ln];omega)) [g5]; rfl)
    refine ⟨l.length - (i + 1), by omega, i + 1, rfl, by omega, ?_, ?_, ?_, rfl⟩ <;> first|(simp (disch := omega) [g0, g1, g5];done)|omega|(simp;done)|(simp;omega)
  ·try simp only[dc]at h14
   refine .exit ?_
   refine hK4 _ ?_
   refine .q ?_
   refine .ret ?_
   exact hK _ _ _ _ trivial ((Fin.m))
theorem szRing_fc (r : List Sp) (n : Int) (h0 : 0 ≤ n) (h1 : n ≤ 9223372036854775807) (hl : r.length ≤ 9223372036854775807) : FC Tryz.prog 118 [.agg [.isl (r.map Sp.cells)], .int .i64 n] (.int .i64 (szN r.length n)) := by
 refine .b Tryz.func118 12 (fun nx K hK => ?_) (hi := by simp [idfL, idf, idfLL_iff, Sp.av, Sp.cells, Sg.av, Sg.cells])
 refine .q ?_
 refine .sq fun K2 hK2 => ?_
 refine .region ?_
 refine .kf 3 (szSpotS_fc r n h0 h1 hl) hb201 ?_
 refine .e ?_
 refine hK2 _ ?_
 refine .sq fun K3 hK3 => ?_
 refine .q ?_
 refine .c (t := decide (szN r.length n < 0)) (fun h10 => ?_) (fun h10 => ?_)
 ·try simp only[dc]at h10
  have hm : szN r.length n = -1 := by unfold szN at *; split at h10 <;> simp_all <;> omega
  refine .q ?_
  refine .ret ?_
  exact hK _ _ _ _ trivial ((Fin.m).cast (by rw [hm]))
 ·try simp only[dc]at h10
  refine .skip ?_
  refine hK3 _ ?_
  refine .q ?_
  refine .ret ?_
  exact hK _ _ _ _ trivial (Fin.m)
theorem toRing_fc (r : List Sp) (hl : r.length ≤ 1048576) : FC Tryz.prog 121 [.agg [.isl (r.map Sp.cells)]] (.agg [.isl (r.map Sp.cells)]) := by
 refine .b Tryz.func121 9 (fun nx K hK => ?_) (hi := by simp [idfL, idf, idfLL_iff, Sp.av, Sp.cells, Sg.av, Sg.cells]) (hr := by simp [idfL, idf, idfLL_iff, Sp.av, Sp.cells, Sg.av, Sg.cells])
 refine .q ?_
 refine .q ?_
 refine .sq fun K3 hK3 => ?_
 refine .region ?_
 refine .kf 2 (toSpotS_fc r hl) hb203 ?_
 refine .e ?_
 refine hK3 _ ?_
 refine .q ?_
 refine .ret ?_
 exact hK _ _ _ _ trivial (Fin.m)
theorem eqRing_fc (r : List Sp) (hl : r.length ≤ 9223372036854775807) : FC Tryz.prog 125 [.agg [.isl (r.map Sp.cells)], .agg [.isl (r.map Sp.cells)]] (.bool true) := by
 refine .b Tryz.func125 11 (fun nx K hK => ?_) (hi := by simp [idfL, idf, idfLL_iff, Sp.av, Sp.cells, Sg.av, Sg.cells])
 refine .q ?_
 refine .sq fun K2 hK2 => ?_
 refine .sq fun K3 hK3 => ?_
 refine .region ?_
 refine .kf 4 (eqSpotS_fc r hl) hb208 ?_
 refine .e ?_
 refine hK3 _ ?_
 refine .c (fun h10 => ?_) (fun h10 => ?_)
 ·simp at h10
 ·try simp only[dc]at h10
  refine .skip ?_
  refine hK2 _ ?_
  refine .q ?_
  refine .ret ?_
  exact hK _ _ _ _ trivial ((Fin.m))
end

end Go.Proofs.YtgeecahbahgjbaaGreat

/- Walks: rows of segments; FnExactQuiet, walked. -/
namespace Go.Proofs.YtgeecahbahgjbaaGreat
open Go Go.RowKit
set_option linter.unusedSimpArgs false
set_option linter.unusedVariables false
set_option maxRecDepth 100000
attribute [local simp] szT2 byT2 agT2 unT2 zoT2 szT3 byT3 agT3 unT3 zoT3 szT24 byT24 agT24 elT24 unT24 zoT24 szT38 byT38 agT38 flT38 fdT38_0 fdT38_1 zoT38 szT40 byT40 agT40 flT40 fdT40_0 fdT40_1 zoT40 szT91 byT91 agT91 elT91 unT91 zoT91 szT178 byT178 agT178 flT178 fdT178_0 fdT178_1 zoT178 szT180 byT180 agT180 flT180 fdT180_0 fdT180_1 zoT180

section
attribute [local simp] Sp.av Sp.cells Sg.av Sg.cells
end
section
attribute [local simp] Sp.av Sp.cells Sg.av Sg.cells
theorem eqSeg_fc (p : Sg) : FC Tryz.prog 124 [p.av, p.av] (.bool true) := by
 refine .b Tryz.func124 17 (fun nx K hK => ?_) (hi := by simp [idfL, idf, idfLL_iff, Sp.av, Sp.cells, Sg.av, Sg.cells])
 refine .q ?_
 refine .sq fun K2 hK2 => ?_
 refine .sq fun K3 hK3 => ?_
 refine .region ?_
 refine .kf 4 (eqSpot_fc p.a) hb207 ?_
 refine .e ?_
 refine hK3 _ ?_
 refine .c (fun h10 => ?_) (fun h10 => ?_)
 ·simp at h10
 ·try simp only[dc]at h10
  refine .skip ?_
  refine hK2 _ ?_
  refine .sq fun K4 hK4 => ?_
  refine .sq fun K5 hK5 => ?_
  refine .region ?_
  refine .kf 4 (eqSpot_fc p.b) hb207 ?_
  refine .e ?_
  refine hK5 _ ?_
  refine .c (fun h16 => ?_) (fun h16 => ?_)
  ·simp at h16
  ·try simp only[dc]at h16
   refine .skip ?_
   refine hK4 _ ?_
   refine .q ?_
   refine .ret ?_
   exact hK _ _ _ _ trivial ((Fin.m))
set_option maxHeartbeats 1000000 in
theorem eqSegS_fc (l : List Sg) (hl : l.length ≤ 9223372036854775807) : FC Tryz.prog 34 [.isl (l.map Sg.cells), .isl (l.map Sg.cells)] (.bool true) := by
 refine .b Tryz.func34 27 (fun nx K hK => ?_) (hi := by simp [idfL, idf, idfLL_iff, Sp.av, Sp.cells, Sg.av, Sg.cells])
 refine .q ?_
 refine .sq fun K2 hK2 => ?_
 refine .q ?_ (by simp (disch := first|omega|(simp only[ln];omega)) [List.length_map]; rfl)
 refine .c (fun h10 => ?_) (fun h10 => ?_)
 ·simp at h10
 ·try simp only[dc]at h10
  refine .skip ?_
  refine hK2 _ ?_
  refine .sq fun K4 hK4 => ?_
  refine .q ?_
  refine .block ?_
  
  refine .loop (fun N s => ∃ i : Nat, N = l.length - i ∧ i ≤ l.length ∧ s.env 0 = .isl (l.map Sg.cells) ∧ s.env 1 = .isl (l.map Sg.cells) ∧ s.env 5 = .int .i64 (i : Int) ∧ s.nt = 27) (l.length) (by refine ⟨0, by omega, by omega, ?_, ?_, ?_, rfl⟩ <;> first|(simp (disch := omega);done)|omega|(simp;done)|(simp;omega)) ?_
  rintro N ⟨e, H, mm, nt⟩ ⟨i, rfl, hi, g0, g1, g5, rfl⟩
  simp only [] at g0 g1 g5
  refine .sq fun K6 hK6 => ?_
  refine .q ?_ (by simp (disch := first|omega|(simp only[ln];omega)) [g0, g5, List.length_map]; rfl)
  refine .c (fun h14 => ?_) (fun h14 => ?_)
  ·try simp only[dc]at h14
   have hi' : i < l.length := by omega
   obtain ⟨p, hpi⟩ : ∃ p, l[i]? = some p := ⟨l[i], by simp [hi']⟩
   have hpm : (l.map Sg.cells)[i]? = some p.cells := by rw [List.getElem?_map, hpi]; rfl
   refine .skip ?_
   refine hK6 _ ?_
   refine .sq fun K8 hK8 => ?_
   refine .block ?_
   refine .sq fun K9 hK9 => ?_
   refine .d 10 ?_
   refine .k 8 (fun fs10 hfs10 => ?_) (by simp (disch := first|omega|(simp only[ln];omega)) [runDf.eq_def, runF1, runF2, stepF.eq_def, updo.eq_def, hupo.eq_def, opSto1.eq_def, List.take_succ_cons, List.take_zero, if_pos, g0, g1, g5, hpm, List.length_map]; rfl)
   refine .f (eqSeg_fc p) hb124 ?_ (ha := by simp (disch := first|omega|(simp only[ln];omega)) [idf_Wd', if_pos, g0, g1, g5, hpm, List.length_map])
   refine .k 1 (fun fs11 hfs11 => ?_) (by simp (disch := first|omega|(simp only[ln];omega)) [runDf.eq_def, runF1, runF2, stepF.eq_def, updo.eq_def, hupo.eq_def, opSto1.eq_def, List.take_succ_cons, List.take_zero, if_pos, g0, g1, g5, hpm, List.length_map]; rfl)
   refine .r 10 (by simp only[ln, hfs10, hfs11];omega) ?_ (by simp (disch := first|omega|(simp only[ln];omega)) [runDf.eq_def, runF1, runF2, stepF.eq_def, updo.eq_def, hupo.eq_def, opSto1.eq_def, if_pos, g0, g1, g5, hpm, List.length_map]; rfl)
   refine hK9 _ ?_
   refine .c (fun h26 => ?_) (fun h26 => ?_)
   ·simp at h26
   ·try simp only[dc]at h26
    refine .skip ?_
    refine hK8 _ ?_
    refine .r ?_ (by simp (disch := first|omega|(simp only[ln];omega)) [g5]; rfl)
    refine ⟨l.length - (i + 1), by omega, i + 1, rfl, by omega, ?_, ?_, ?_, rfl⟩ <;> first|(simp (disch := omega) [g0, g1, g5];done)|omega|(simp;done)|(simp;omega)
  ·try simp only[dc]at h14
   refine .exit ?_
   refine hK4 _ ?_
   refine .q ?_
   refine .ret ?_
   exact hK _ _ _ _ trivial ((Fin.m))
end

end Go.Proofs.YtgeecahbahgjbaaGreat

/- Walks: rings turned; rows of spots that are marked. -/
namespace Go.Proofs.YtgeecahbahgjbaaGreat
open Go Go.RowKit
set_option linter.unusedSimpArgs false
set_option linter.unusedVariables false
set_option maxRecDepth 100000
attribute [local simp] szT2 byT2 agT2 unT2 zoT2 szT3 byT3 agT3 unT3 zoT3 szT38 byT38 agT38 flT38 fdT38_0 fdT38_1 zoT38 szT41 byT41 agT41 elT41 unT41 zoT41 szT43 byT43 agT43 flT43 fdT43_0 zoT43 szT153 byT153 agT153 elT153 unT153 zoT153 szT155 byT155 agT155 flT155 fdT155_0 zoT155 szT178 byT178 agT178 flT178 fdT178_0 fdT178_1 zoT178

set_option maxHeartbeats 1000000 in
theorem toSpotS_own (l : List Sp) (hl : l.length ≤ 1048576) (nx : Nat) : ACall Tryz.prog 203 [.isl (l.map Sp.cells)] (fun _ => none) nx (own1 nx 2 (l.map Sp.cells) (fun id => .osl id 0 l.length)) := by
 refine .b Tryz.func203 23 fun K hK => ?_
 refine .q ?_
 refine .q ?_ (by simp (disch := first|omega|(simp only[ln];omega)) [if_pos, List.length_map]; rfl)
 refine .sq fun K3 hK3 => ?_
 refine .q ?_
 refine .block ?_
 refine .loop (fun N s => ∃ i id : Nat, N = l.length - i ∧ i ≤ l.length ∧ s.env 0 = .isl (l.map Sp.cells) ∧ s.env 3 = .osl id 0 l.length ∧ s.env 4 = .int .i64 (i : Int) ∧ s.heap id = some (2, fillR Sp.cells [.int .i64 0, .int .i64 0] l i) ∧ nx ≤ id ∧ id < s.nx ∧ s.nt = 23) (l.length) (⟨0, nx, by omega, by omega, by simp, by simp, by simp, by simp [← fillR_zero], by omega, by simp, rfl⟩) ?_
 rintro N ⟨e, H, mm, nt⟩ ⟨i, id, rfl, hi, h0, h3, h4, hH, hx1, hx2, rfl⟩
 simp only [] at h0 h3 h4 hH hx1 hx2
 refine .sq fun K5 hK5 => ?_
 refine .q ?_ (by simp (disch := first|omega|(simp only[ln];omega)) [h0, h4, List.length_map]; rfl)
 refine .c (fun h11 => ?_) (fun h11 => ?_)
 ·try simp only[dc]at h11
  have hi' : i < l.length := by omega
  obtain ⟨p, hpi⟩ : ∃ p, l[i]? = some p := ⟨l[i], by simp [hi']⟩
  have hpm : (l.map Sp.cells)[i]? = some p.cells := by rw [List.getElem?_map, hpi]; rfl
  have fst := fillR_set Sp.cells [.int .i64 0, .int .i64 0] l hpi
  simp only [Sp.cells] at fst
  have fl := fillR_len Sp.cells [.int .i64 0, .int .i64 0] l hi
  have fg := fillR_getE Sp.cells [.int .i64 0, .int .i64 0] l hi'
  refine .skip ?_
  refine hK5 _ ?_
  refine .sq fun K7 hK7 => ?_
  refine .block ?_
  refine .region ?_
  refine .kf 6 (toSpot_fc p) hb221 ?_ (by simp (disch := first|omega|(simp only[ln];omega)) [List.take_succ_cons, List.take_zero, if_pos, h0, h3, h4, hH, fl, fg, hpm, Sp.cells, Sg.cells, Sp.av, Sg.av, List.length_map]; rfl) (ha := by simp (disch := first|omega|(simp only[ln];omega)) [idf_Wd', if_pos, h0, h3, h4, hH, fl, fg, hpm, Sp.cells, Sg.cells, Sp.av, Sg.av, List.length_map])
  refine .e ?_ (by simp (disch := first|omega|(simp only[ln];omega)) [if_pos, h0, h3, h4, hH, fl, fg, hpm, Sp.cells, Sg.cells, Sp.av, Sg.av, List.length_map]; rfl)
  refine hK7 _ ?_
  refine .r ?_ (by simp (disch := first|omega|(simp only[ln];omega)) [h4]; rfl)
  refine ⟨l.length - (i + 1), by omega, i + 1, id, rfl, by omega, by simp [h0], by simp [h3], by simp (disch := omega) [h4], by simp [fst], hx1, by first | omega | (simp; done) | (simp; omega), rfl⟩
 ·try simp only[dc]at h11
  have hin : i = l.length := by omega
  rw [hin, fillR_all] at hH
  refine .exit ?_
  refine hK3 _ ?_
  refine .q ?_ (by simp (disch := first|omega|(simp only[ln];omega)) [h3]; rfl)
  refine .ret ?_
  exact hK _ _ _ _ _ trivial (Fin.own1 (Fin.mk (by simp (disch := omega) [aRes, aResL, aRes1]; try rfl)) (id := id) (by simp [hH])) (⟨id, by first | omega | (simp; done) | (simp; omega), by first | omega | (simp; done) | (simp; omega), rfl, rfl⟩)
section
attribute [local simp] Sp.av Sp.cells Sg.av Sg.cells
theorem toRing_own (r : List Sp) (hl : r.length ≤ 1048576) (nx : Nat) : ACall Tryz.prog 121 [.agg [.isl (r.map Sp.cells)]] (fun _ => none) nx (own1 nx 2 (r.map Sp.cells) (fun id => .agg [.osl id 0 r.length])) := by
 refine .b Tryz.func121 9 fun K hK => ?_
 refine .q ?_
 refine .q ?_
 refine .sq fun K3 hK3 => ?_
 refine .region ?_
 refine .k 2 ?_
 refine AOPS.ocallL 4 (toSpotS_own r hl _) rfl rfl rfl hb203 (by simp (disch := first|omega|(simp only[ln];omega)) [lv, idf_Wd']) (⟨fun _ h => by simp [nwr, nwrL]; try exact h, by simp [nwr, nwrL, Sp.cells, Sg.cells]⟩) (by simp (disch := first|omega|(simp only[ln];omega))) (by simp) ?_
 intro id nx2 hi1 hi2
 simp only [] at hi1 hi2
 simp only [puts_some, updo]
 refine .e ?_
 refine hK3 _ ?_
 refine .q ?_
 refine .ret ?_
 exact hK _ _ _ _ _ trivial (Fin.own1 (Fin.mk (by simp (disch := omega) [aRes, aResL, aRes1]; try rfl)) (id := id) (by simp (disch := omega))) (⟨id, by first | omega | (simp; done) | (simp; omega), by first | omega | (simp; done) | (simp; omega), rfl, rfl⟩)
set_option maxHeartbeats 1000000 in
theorem markSpotS_ac (n id : Nat) (es : List (List AV)) (k : Int) (HP : Heap) (nx : Nat) (hH : HP id = some (2, es)) (hn : es.length = n) (hw : ∀ row ∈ es, row.length = 2) (hk0 : 0 ≤ k) (hk1 : k ≤ 1000000000) (hn1 : n ≤ 1099511627776) : ACall Tryz.prog 126 [.osl id 0 n, .int .i64 k] HP nx (fun r H' nx' => r = .int .i64 (k + 2 * (n : Int)) ∧ H' = hupd HP id (some (2, mkR (m2 k) n)) ∧ nx' = nx) := by
 refine .b Tryz.func126 27 fun K hK => ?_
 refine .q ?_
 refine .sq fun K2 hK2 => ?_
 refine .q ?_
 refine .block ?_
 
 refine .loop (fun N s => ∃ i : Nat, N = n - i ∧ i ≤ n ∧ (s.heap = hupd HP id (some (2, cmR (m2 k) es i))) ∧ (s.nx = nx) ∧ s.env 0 = .osl id 0 n ∧ s.env 1 = .int .i64 (k + 2 * (i : Int)) ∧ s.env 5 = .int .i64 (i : Int) ∧ s.nt = 27) (n) (by refine ⟨0, by omega, by omega, by rw [cmR_zero]; exact (hupd_id hH).symm, rfl, ?_, ?_, ?_, rfl⟩ <;> first|(simp (disch := omega);done)|omega|(simp;done)|(simp;omega)|(simp (disch := omega) <;> omega)) ?_
 rintro N ⟨e, H, mm, nt⟩ ⟨i, rfl, hi, rfl, rfl, g0, g1, g5, rfl⟩
 simp only [] at g0 g1 g5
 refine .sq fun K4 hK4 => ?_
 refine .q ?_ (by simp (disch := first|omega|(simp only[ln];omega)) [g0, g5]; rfl)
 refine .c (fun h9 => ?_) (fun h9 => ?_)
 ·try simp only[dc]at h9
  have hi' : i < n := by omega
  obtain ⟨row, hrow⟩ : ∃ row, es[i]? = some row := ⟨es[i], by simp⟩
  have hrl := hw row (List.mem_of_getElem? hrow)
  obtain ⟨r0, r1, rfl⟩ : ∃ r0 r1, row = [r0, r1] := by
    match row, hrl with
    | [a, b], _ => exact ⟨a, b, rfl⟩
  have hget : (cmR (m2 k) es i)[i]? = some [r0, r1] := by rw [cmR_get]; exact hrow
  have hcl : (cmR (m2 k) es i).length = n := by rw [cmR_len _ _ (by omega)]; exact hn
  have hset : (cmR (m2 k) es i).set i [.int .i64 (k + 2 * (i : Int)), .int .i64 (k + 2 * (i : Int) + 1)] = cmR (m2 k) es (i + 1) := cmR_set (m2 k) es (i := i) (by omega)
  generalize cmR (m2 k) es i = C at *
  have hgE : ∀ h : i < C.length, C[i] = [r0, r1] := fun h => by rw [List.getElem?_eq_getElem h] at hget; simpa using hget
  refine .skip ?_
  refine hK4 _ ?_
  refine .sq fun K6 hK6 => ?_
  refine .block ?_
  refine .q ?_ (by simp (disch := first|omega|(simp only[ln];omega)) [if_pos, g0, g1, g5, hget, hcl, hgE]; rfl)
  refine .q ?_ (by simp (disch := first|omega|(simp only[ln];omega)) [g1]; rfl)
  refine .q ?_ (by simp (disch := first|omega|(simp only[ln];omega)) [if_pos, g0, g1, g5, hget, hcl, hgE]; rfl)
  refine .r ?_ (by simp (disch := first|omega|(simp only[ln];omega)) [g1]; rfl)
  refine hK6 _ ?_
  refine .r ?_ (by simp (disch := first|omega|(simp only[ln];omega)) [g5]; rfl)
  refine ⟨n - (i + 1), by omega, i + 1, rfl, by omega, by simp [hupd_same, List.set_set, hset], by simp, ?_, ?_, ?_, rfl⟩ <;> first|(simp (disch := omega) [g0, g1, g5];done)|omega|(simp;done)|(simp;omega)|(simp (disch := omega) [g0, g1, g5] <;> omega)
 ·try simp only[dc]at h9
  have hin : i = n := by omega
  subst hin
  subst hn
  refine .exit ?_
  refine hK2 _ ?_
  refine .q ?_ (by simp (disch := first|omega|(simp only[ln];omega)) [g1]; rfl)
  refine .ret ?_
  exact hK _ _ _ _ _ trivial ((Fin.m)) (⟨rfl, by rw [cmR_end], rfl⟩)
end

end Go.Proofs.YtgeecahbahgjbaaGreat

/- Walks: rows of rings: the laws' own functions. -/
namespace Go.Proofs.YtgeecahbahgjbaaGreat
open Go Go.RowKit
set_option linter.unusedSimpArgs false
set_option linter.unusedVariables false
set_option maxRecDepth 100000
attribute [local simp] szT3 byT3 agT3 unT3 zoT3 szT41 byT41 agT41 elT41 unT41 zoT41 szT43 byT43 agT43 flT43 fdT43_0 zoT43 szT50 byT50 agT50 elT50 unT50 zoT50 szT53 byT53 agT53 elT53 unT53 zoT53 szT153 byT153 agT153 elT153 unT153 zoT153 szT155 byT155 agT155 flT155 fdT155_0 zoT155

section
attribute [local simp] Sp.av Sp.cells Sg.av Sg.cells
set_option maxHeartbeats 1000000 in
theorem szRingS_fc (L : List (List Sp)) (hl : L.length ≤ 9223372036854775807) (hl2 : ∀ l ∈ L, l.length ≤ 9223372036854775807) : FC Tryz.prog 30 [rgs L, .int .i64 1048576] (.int .i64 (srA L 1048576)) := by
 refine .b Tryz.func30 27 (fun nx K hK => ?_) (hi := by simp [idfL, idf, idfLL_iff, rgs, rgC, Sp.cells])
 refine .q ?_
 refine .q ?_ (by simp (disch := first|omega|(simp only[ln];omega)) [rgs, List.length_map]; rfl)
 refine .sq fun K3 hK3 => ?_
 refine .q ?_
 refine .c (fun h11 => ?_) (fun h11 => ?_)
 ·try simp only[dc]at h11
  refine .q ?_
  refine .ret ?_
  exact hK _ _ _ _ trivial ((Fin.m).cast (by unfold srA; rw [if_pos (by omega)]))
 ·try simp only[dc]at h11
  have hv0 : srA L 1048576 = srGo (L.drop 0) (1048576 - (L.length : Int)) := by unfold srA; rw [if_neg (by omega), List.drop_zero]
  refine .skip ?_
  refine hK3 _ ?_
  refine .sq fun K6 hK6 => ?_
  refine .q ?_
  refine .block ?_
  refine .loop (fun N s => ∃ (i : Nat) (n : Int), N = L.length - i ∧ i ≤ L.length ∧ 0 ≤ n ∧ n ≤ 1048576 ∧ srA L 1048576 = srGo (L.drop i) n ∧ s.env 0 = rgs L ∧ s.env 1 = .int .i64 n ∧ s.env 5 = .int .i64 (i : Int) ∧ s.nt = 27) (L.length) (⟨0, 1048576 - (L.length : Int), by omega, by omega, by omega, by omega, hv0, by simp [rgs], by simp, by simp, rfl⟩) ?_
  rintro N ⟨e, H, mm, nt⟩ ⟨i, n, rfl, hi, hn0, hn1, hv, h0, h1, h5, rfl⟩
  simp only [] at h0 h1 h5
  refine .sq fun K8 hK8 => ?_
  refine .q ?_ (by simp (disch := first|omega|(simp only[ln];omega)) [h0, h5, rgs, List.length_map]; rfl)
  refine .c (fun h15 => ?_) (fun h15 => ?_)
  ·try simp only[dc]at h15
   have hi' : i < L.length := by omega
   obtain ⟨l, hli⟩ : ∃ l, L[i]? = some l := ⟨L[i], by simp [hi']⟩
   have hmi : (L.map rgC)[i]? = some (rgC l) := by rw [List.getElem?_map, hli]; rfl
   have hmem := List.mem_of_getElem? hli
   have hll := hl2 l hmem
   rw [srGo_drop hli] at hv
   refine .skip ?_
   refine hK8 _ ?_
   refine .sq fun K10 hK10 => ?_
   refine .block ?_
   refine .sq fun K11 hK11 => ?_
   refine .region ?_
   refine .kf 5 (szRing_fc l n hn0 (by omega) hll) hb118 ?_ (by simp (disch := first|omega|(simp only[ln];omega)) [List.take_succ_cons, List.take_zero, if_pos, h0, h1, h5, rgs, hmi, rgC, List.length_map]; rfl) (ha := by simp (disch := first|omega|(simp only[ln];omega)) [idf_Wd', if_pos, h0, h1, h5, rgs, hmi, rgC, List.length_map])
   refine .e ?_ (by simp (disch := first|omega|(simp only[ln];omega)) [if_pos, h0, h1, h5, rgs, hmi, rgC, List.length_map]; rfl)
   refine hK11 _ ?_
   refine .q ?_
   refine .c (fun h25 => ?_) (fun h25 => ?_)
   ·try simp only[dc]at h25
    have hng : n - (l.length : Int) < 0 := by
      unfold szN at h25
      split at h25
      · assumption
      · omega
    refine .q ?_
    refine .ret ?_
    exact hK _ _ _ _ trivial ((Fin.m).cast (by rw [hv, if_pos hng]))
   ·try simp only[dc]at h25
    have hng : ¬ n - (l.length : Int) < 0 := fun h => by
      unfold szN at h25
      rw [if_pos h] at h25; omega
    refine .skip ?_
    refine hK10 _ ?_
    refine .r ?_ (by simp (disch := first|omega|(simp only[ln];omega)) [h5]; rfl)
    refine ⟨L.length - (i + 1), by omega, i + 1, n - (l.length : Int), rfl, by omega, by omega, by omega, by rw [hv, if_neg hng], by simp [h0], by simp [szN, hng], by simp (disch := omega) [h5], rfl⟩
  ·try simp only[dc]at h15
   have hin : i = L.length := by omega
   rw [hin, srGo_end] at hv
   refine .exit ?_
   refine hK6 _ ?_
   refine .q ?_ (by simp (disch := first|omega|(simp only[ln];omega)) [h1]; rfl)
   refine .ret ?_
   exact hK _ _ _ _ trivial ((Fin.m).cast (by rw [hv]))
set_option maxHeartbeats 1000000 in
theorem toRingS_fc (L : List (List Sp)) (hl : L.length ≤ 1048576) (hl2 : ∀ l ∈ L, l.length ≤ 1048576) : FC Tryz.prog 32 [rgs L] (rgs L) := by
 refine .b Tryz.func32 23 (fun nx K hK => ?_) (hi := by simp [idfL, idf, idfLL_iff, rgs, rgC, Sp.cells]) (hr := by simp [idfL, idf, idfLL_iff, rgs, rgC, Sp.cells])
 unfold rgs
 refine .q ?_
 refine .q ?_ (by simp (disch := first|omega|(simp only[ln];omega)) [if_pos, List.length_map]; rfl)
 refine .sq fun K3 hK3 => ?_
 refine .q ?_
 refine .block ?_
 refine .loop (fun N s => ∃ i id : Nat, N = L.length - i ∧ i ≤ L.length ∧ s.env 0 = .isl (L.map rgC) ∧ s.env 3 = .osl id 0 L.length ∧ s.env 4 = .int .i64 (i : Int) ∧ s.heap id = some (1, fillR rgC [.nsl] L i) ∧ s.nt = 23) (L.length) (⟨0, nx, by omega, by omega, by simp, by simp, by simp, by simp [← fillR_zero], rfl⟩) ?_
 rintro N ⟨e, H, mm, nt⟩ ⟨i, id, rfl, hi, h0, h3, h4, hH, rfl⟩
 simp only [] at h0 h3 h4 hH
 refine .sq fun K5 hK5 => ?_
 refine .q ?_ (by simp (disch := first|omega|(simp only[ln];omega)) [h0, h4, List.length_map]; rfl)
 refine .c (fun h11 => ?_) (fun h11 => ?_)
 ·try simp only[dc]at h11
  have hi' : i < L.length := by omega
  obtain ⟨l, hli⟩ : ∃ l, L[i]? = some l := ⟨L[i], by simp [hi']⟩
  have hmi : (L.map rgC)[i]? = some (rgC l) := by rw [List.getElem?_map, hli]; rfl
  have hmem := List.mem_of_getElem? hli
  have fst := fillR_set rgC [.nsl] L hli
  simp only [rgC] at fst
  have fl := fillR_len rgC [.nsl] L hi
  have fg := fillR_getE rgC [.nsl] L hi'
  refine .skip ?_
  refine hK5 _ ?_
  refine .sq fun K7 hK7 => ?_
  refine .block ?_
  refine .region ?_
  refine .kf 6 (toRing_fc l (hl2 l hmem)) hb121 ?_ (by simp (disch := first|omega|(simp only[ln];omega)) [List.take_succ_cons, List.take_zero, if_pos, h0, h3, h4, hH, fl, fg, hmi, rgC, List.length_map]; rfl) (ha := by simp (disch := first|omega|(simp only[ln];omega)) [idf_Wd', if_pos, h0, h3, h4, hH, fl, fg, hmi, rgC, List.length_map])
  refine .e ?_ (by simp (disch := first|omega|(simp only[ln];omega)) [if_pos, h0, h3, h4, hH, fl, fg, hmi, rgC, List.length_map]; rfl)
  refine hK7 _ ?_
  refine .r ?_ (by simp (disch := first|omega|(simp only[ln];omega)) [h4]; rfl)
  refine ⟨L.length - (i + 1), by omega, i + 1, id, rfl, by omega, by simp [h0], by simp [h3], by simp (disch := omega) [h4], by simp [fst], rfl⟩
 ·try simp only[dc]at h11
  have hin : i = L.length := by omega
  rw [hin, fillR_all] at hH
  refine .exit ?_
  refine hK3 _ ?_
  refine .q ?_ (by simp (disch := first|omega|(simp only[ln];omega)) [h3]; rfl)
  refine .ret ?_
  exact hK _ _ _ _ trivial (((Fin.mk (r := .osl id 0 L.length) (by simp [aRes, aResL, aRes1])).freeze (id := id) (z := 1) (es := L.map rgC) (by simp [hH])).cast (fz_fill _ _ rfl))
set_option maxHeartbeats 1000000 in
theorem eqRingS_fc (L : List (List Sp)) (hl : L.length ≤ 9223372036854775807) (hl2 : ∀ l ∈ L, l.length ≤ 9223372036854775807) : FC Tryz.prog 35 [rgs L, rgs L] (.bool true) := by
 refine .b Tryz.func35 27 (fun nx K hK => ?_) (hi := by simp [idfL, idf, idfLL_iff, rgs, rgC, Sp.cells])
 refine .q ?_
 refine .sq fun K2 hK2 => ?_
 refine .q ?_ (by simp (disch := first|omega|(simp only[ln];omega)) [rgs, List.length_map]; rfl)
 refine .c (fun h10 => ?_) (fun h10 => ?_)
 ·simp at h10
 ·try simp only[dc]at h10
  refine .skip ?_
  refine hK2 _ ?_
  refine .sq fun K4 hK4 => ?_
  refine .q ?_
  refine .block ?_
  refine .loop (fun N s => ∃ i : Nat, N = L.length - i ∧ i ≤ L.length ∧ s.env 0 = rgs L ∧ s.env 1 = rgs L ∧ s.env 5 = .int .i64 (i : Int) ∧ s.nt = 27) (L.length) (⟨0, by omega, by omega, by simp [rgs], by simp [rgs], by simp, rfl⟩) ?_
  rintro N ⟨e, H, mm, nt⟩ ⟨i, rfl, hi, h0, h1, h5, rfl⟩
  simp only [] at h0 h1 h5
  refine .sq fun K6 hK6 => ?_
  refine .q ?_ (by simp (disch := first|omega|(simp only[ln];omega)) [h0, h5, rgs, List.length_map]; rfl)
  refine .c (fun h14 => ?_) (fun h14 => ?_)
  ·try simp only[dc]at h14
   have hi' : i < L.length := by omega
   obtain ⟨l, hli⟩ : ∃ l, L[i]? = some l := ⟨L[i], by simp [hi']⟩
   have hmi : (L.map rgC)[i]? = some (rgC l) := by rw [List.getElem?_map, hli]; rfl
   have hmem := List.mem_of_getElem? hli
   refine .skip ?_
   refine hK6 _ ?_
   refine .sq fun K8 hK8 => ?_
   refine .block ?_
   refine .sq fun K9 hK9 => ?_
   refine .d 10 ?_
   refine .k 8 (fun fs10 hfs10 => ?_) (by simp (disch := first|omega|(simp only[ln];omega)) [runDf.eq_def, runF1, runF2, stepF.eq_def, updo.eq_def, hupo.eq_def, opSto1.eq_def, List.take_succ_cons, List.take_zero, if_pos, h0, h1, h5, hmi, rgs, rgC, List.length_map]; rfl)
   refine .f (eqRing_fc l (hl2 l hmem)) hb125 ?_ (ha := by simp (disch := first|omega|(simp only[ln];omega)) [idf_Wd', if_pos, h0, h1, h5, hmi, rgs, rgC, List.length_map])
   refine .k 1 (fun fs11 hfs11 => ?_) (by simp (disch := first|omega|(simp only[ln];omega)) [runDf.eq_def, runF1, runF2, stepF.eq_def, updo.eq_def, hupo.eq_def, opSto1.eq_def, List.take_succ_cons, List.take_zero, if_pos, h0, h1, h5, hmi, rgs, rgC, List.length_map]; rfl)
   refine .r 10 (by simp only[ln, hfs10, hfs11];omega) ?_ (by simp (disch := first|omega|(simp only[ln];omega)) [runDf.eq_def, runF1, runF2, stepF.eq_def, updo.eq_def, hupo.eq_def, opSto1.eq_def, if_pos, h0, h1, h5, hmi, rgs, rgC, List.length_map]; rfl)
   refine hK9 _ ?_
   refine .c (fun h26 => ?_) (fun h26 => ?_)
   ·simp at h26
   ·try simp only[dc]at h26
    refine .skip ?_
    refine hK8 _ ?_
    refine .r ?_ (by simp (disch := first|omega|(simp only[ln];omega)) [h5]; rfl)
    refine ⟨L.length - (i + 1), by omega, i + 1, rfl, by omega, by simp [h0], by simp [h1], by simp (disch := omega) [h5], rfl⟩
  ·try simp only[dc]at h14
   refine .exit ?_
   refine hK4 _ ?_
   refine .q ?_
   refine .ret ?_
   exact hK _ _ _ _ trivial ((Fin.m))
end

end Go.Proofs.YtgeecahbahgjbaaGreat

/- Walks: rows of segments marked and held; sides of a ring as an own row; FnExactRingSegs, walked. -/
namespace Go.Proofs.YtgeecahbahgjbaaGreat
open Go Go.RowKit
set_option linter.unusedSimpArgs false
set_option linter.unusedVariables false
set_option maxRecDepth 100000
attribute [local simp] szT2 byT2 agT2 unT2 zoT2 szT3 byT3 agT3 unT3 zoT3 szT24 byT24 agT24 elT24 unT24 zoT24 szT38 byT38 agT38 flT38 fdT38_0 fdT38_1 zoT38 szT40 byT40 agT40 flT40 fdT40_0 fdT40_1 zoT40 szT41 byT41 agT41 elT41 unT41 zoT41 szT43 byT43 agT43 flT43 fdT43_0 zoT43

theorem segrow_len (r : List Sg) : ∀ row ∈ r.map Sg.cells, row.length = 4 := by intro row h; obtain ⟨p, _, rfl⟩ := List.mem_map.1 h; rfl
theorem sprow_len (r : List Sp) : ∀ row ∈ r.map Sp.cells, row.length = 2 := by intro row h; obtain ⟨p, _, rfl⟩ := List.mem_map.1 h; rfl
theorem mkR_tk (f : Nat → List AV) (n : Nat) : List.take n (mkR f n) = mkR f n := List.take_of_length_le (by rw [mkR_len]; omega)

section
attribute [local simp] Sp.av Sp.cells Sg.av Sg.cells
set_option maxHeartbeats 1000000 in
theorem markSegS_ac (n id : Nat) (es : List (List AV)) (k : Int) (HP : Heap) (nx : Nat) (hH : HP id = some (4, es)) (hn : es.length = n) (hw : ∀ row ∈ es, row.length = 4) (hk0 : 0 ≤ k) (hk1 : k ≤ 1000000000) (hn1 : n ≤ 1099511627776) : ACall Tryz.prog 37 [.osl id 0 n, .int .i64 k] HP nx (fun r H' nx' => r = .int .i64 (k + 4 * (n : Int)) ∧ H' = hupd HP id (some (4, mkR (m4 k) n)) ∧ nx' = nx) := by
 refine .b Tryz.func37 45 fun K hK => ?_
 refine .q ?_
 refine .sq fun K2 hK2 => ?_
 refine .q ?_
 refine .block ?_
 
 refine .loop (fun N s => ∃ i : Nat, N = n - i ∧ i ≤ n ∧ (s.heap = hupd HP id (some (4, cmR (m4 k) es i))) ∧ (s.nx = nx) ∧ s.env 0 = .osl id 0 n ∧ s.env 1 = .int .i64 (k + 4 * (i : Int)) ∧ s.env 5 = .int .i64 (i : Int) ∧ s.nt = 45) (n) (by refine ⟨0, by omega, by omega, by rw [cmR_zero]; exact (hupd_id hH).symm, rfl, ?_, ?_, ?_, rfl⟩ <;> first|(simp (disch := omega);done)|omega|(simp;done)|(simp;omega)|(simp (disch := omega) <;> omega)) ?_
 rintro N ⟨e, H, mm, nt⟩ ⟨i, rfl, hi, rfl, rfl, g0, g1, g5, rfl⟩
 simp only [] at g0 g1 g5
 refine .sq fun K4 hK4 => ?_
 refine .q ?_ (by simp (disch := first|omega|(simp only[ln];omega)) [g0, g5]; rfl)
 refine .c (fun h9 => ?_) (fun h9 => ?_)
 ·try simp only[dc]at h9
  have hi' : i < n := by omega
  obtain ⟨row, hrow⟩ : ∃ row, es[i]? = some row := ⟨es[i], by simp⟩
  have hrl := hw row (List.mem_of_getElem? hrow)
  obtain ⟨r0, r1, r2, r3, rfl⟩ : ∃ r0 r1 r2 r3, row = [r0, r1, r2, r3] := by
    match row, hrl with
    | [a, b, c, d], _ => exact ⟨a, b, c, d, rfl⟩
  have hget : (cmR (m4 k) es i)[i]? = some [r0, r1, r2, r3] := by rw [cmR_get]; exact hrow
  have hcl : (cmR (m4 k) es i).length = n := by rw [cmR_len _ _ (by omega)]; exact hn
  have hset : (cmR (m4 k) es i).set i [.int .i64 (k + 4 * (i : Int)), .int .i64 (k + 4 * (i : Int) + 1), .int .i64 (k + 4 * (i : Int) + 1 + 1), .int .i64 (k + 4 * (i : Int) + 1 + 1 + 1)] = cmR (m4 k) es (i + 1) := cmR_set (m4 k) es (i := i) (by omega)
  generalize cmR (m4 k) es i = C at *
  have hgE : ∀ h : i < C.length, C[i] = [r0, r1, r2, r3] := fun h => by rw [List.getElem?_eq_getElem h] at hget; simpa using hget
  refine .skip ?_
  refine hK4 _ ?_
  refine .sq fun K6 hK6 => ?_
  refine .block ?_
  refine .q ?_ (by simp (disch := first|omega|(simp only[ln];omega)) [if_pos, g0, g1, g5, hget, hcl, hgE]; rfl)
  refine .q ?_ (by simp (disch := first|omega|(simp only[ln];omega)) [g1]; rfl)
  refine .q ?_ (by simp (disch := first|omega|(simp only[ln];omega)) [if_pos, g0, g1, g5, hget, hcl, hgE]; rfl)
  refine .q ?_ (by simp (disch := first|omega|(simp only[ln];omega)) [g1]; rfl)
  refine .q ?_ (by simp (disch := first|omega|(simp only[ln];omega)) [if_pos, g0, g1, g5, hget, hcl, hgE]; rfl)
  refine .q ?_ (by simp (disch := first|omega|(simp only[ln];omega)) [g1]; rfl)
  refine .q ?_ (by simp (disch := first|omega|(simp only[ln];omega)) [if_pos, g0, g1, g5, hget, hcl, hgE]; rfl)
  refine .r ?_ (by simp (disch := first|omega|(simp only[ln];omega)) [g1]; rfl)
  refine hK6 _ ?_
  refine .r ?_ (by simp (disch := first|omega|(simp only[ln];omega)) [g5]; rfl)
  refine ⟨n - (i + 1), by omega, i + 1, rfl, by omega, by simp [hupd_same, List.set_set, hset], by simp, ?_, ?_, ?_, rfl⟩ <;> first|(simp (disch := omega) [g0, g1, g5];done)|omega|(simp;done)|(simp;omega)|(simp (disch := omega) [g0, g1, g5] <;> omega)
 ·try simp only[dc]at h9
  have hin : i = n := by omega
  subst hin
  subst hn
  refine .exit ?_
  refine hK2 _ ?_
  refine .q ?_ (by simp (disch := first|omega|(simp only[ln];omega)) [g1]; rfl)
  refine .ret ?_
  exact hK _ _ _ _ _ trivial ((Fin.m)) (⟨rfl, by rw [cmR_end], rfl⟩)
set_option maxHeartbeats 2000000 in
theorem heldSegS_fc (n : Nat) (k : Int) (hk0 : 0 ≤ k) (hk1 : k ≤ 1000000000) (hn1 : n ≤ 1099511627776) : FC Tryz.prog 38 [.isl (mkR (m4 k) n), .int .i64 k] (.int .i64 (k + 4 * (n : Int))) := by
 refine .b Tryz.func38 53 (fun nx K hK => ?_) (hi := by simp [idfL, idf, idfLL_iff, mkR, m4])
 refine .q ?_
 refine .sq fun K2 hK2 => ?_
 refine .q ?_
 refine .block ?_
 
 refine .loop (fun N s => ∃ i : Nat, N = n - i ∧ i ≤ n ∧ s.env 0 = .isl (mkR (m4 k) n) ∧ s.env 1 = .int .i64 (k + 4 * (i : Int)) ∧ s.env 5 = .int .i64 (i : Int) ∧ s.nt = 53) (n) (by refine ⟨0, by omega, by omega, ?_, ?_, ?_, rfl⟩ <;> first|(simp (disch := omega);done)|omega|(simp;done)|(simp;omega)|(simp (disch := omega) <;> omega)) ?_
 rintro N ⟨e, H, mm, nt⟩ ⟨i, rfl, hi, g0, g1, g5, rfl⟩
 simp only [] at g0 g1 g5
 refine .sq fun K4 hK4 => ?_
 refine .q ?_ (by simp (disch := first|omega|(simp only[ln];omega)) [g0, g5, mkR_len]; rfl)
 refine .c (fun h9 => ?_) (fun h9 => ?_)
 ·try simp only[dc]at h9
  have hi' : i < n := by omega
  have hat : (mkR (m4 k) n)[i]? = some [.int .i64 (k + 4 * (i : Int)), .int .i64 (k + 4 * (i : Int) + 1), .int .i64 (k + 4 * (i : Int) + 1 + 1), .int .i64 (k + 4 * (i : Int) + 1 + 1 + 1)] := mkR_get (m4 k) hi'
  refine .skip ?_
  refine hK4 _ ?_
  refine .sq fun K6 hK6 => ?_
  refine .block ?_
  refine .sq fun K7 hK7 => ?_
  refine .q ?_ (by simp (disch := first|omega|(simp only[ln];omega)) [if_pos, g0, g1, g5, hat, mkR_len]; rfl)
  refine .c (fun h19 => ?_) (fun h19 => ?_)
  ·simp at h19
  ·try simp only[dc]at h19
   refine .skip ?_
   refine hK7 _ ?_
   refine .q ?_ (by simp (disch := first|omega|(simp only[ln];omega)) [g1]; rfl)
   refine .sq fun K10 hK10 => ?_
   refine .q ?_ (by simp (disch := first|omega|(simp only[ln];omega)) [if_pos, g0, g5, hat, mkR_len]; rfl)
   refine .c (fun h29 => ?_) (fun h29 => ?_)
   ·simp at h29
   ·try simp only[dc]at h29
    refine .skip ?_
    refine hK10 _ ?_
    refine .q ?_
    refine .sq fun K13 hK13 => ?_
    refine .q ?_ (by simp (disch := first|omega|(simp only[ln];omega)) [if_pos, g0, g5, hat, mkR_len]; rfl)
    refine .c (fun h39 => ?_) (fun h39 => ?_)
    ·simp at h39
    ·try simp only[dc]at h39
     refine .skip ?_
     refine hK13 _ ?_
     refine .q ?_
     refine .sq fun K16 hK16 => ?_
     refine .q ?_ (by simp (disch := first|omega|(simp only[ln];omega)) [if_pos, g0, g5, hat, mkR_len]; rfl)
     refine .c (fun h49 => ?_) (fun h49 => ?_)
     ·simp at h49
     ·try simp only[dc]at h49
      refine .skip ?_
      refine hK16 _ ?_
      refine .r ?_
      refine hK6 _ ?_
      refine .r ?_ (by simp (disch := first|omega|(simp only[ln];omega)) [g5]; rfl)
      refine ⟨n - (i + 1), by omega, i + 1, rfl, by omega, ?_, ?_, ?_, rfl⟩ <;> first|(simp (disch := omega) [g0, g1, g5];done)|omega|(simp;done)|(simp;omega)|(simp (disch := omega) [g0, g1, g5] <;> omega)
 ·try simp only[dc]at h9
  have hin : i = n := by omega
  subst hin
  refine .exit ?_
  refine hK2 _ ?_
  refine .q ?_ (by simp (disch := first|omega|(simp only[ln];omega)) [g1]; rfl)
  refine .ret ?_
  exact hK _ _ _ _ trivial ((Fin.m))
theorem markSegS_nil (k : Int) (hk0 : 0 ≤ k) (hk1 : k ≤ 1000000000) : FC Tryz.prog 37 [.isl [], .int .i64 k] (.int .i64 k) := by
 refine .b Tryz.func37 45 (fun nx K hK => ?_)
 refine .q ?_
 refine .sq fun K2 hK2 => ?_
 refine .q ?_
 refine .block ?_
 
 refine .loop (fun N s => ∃ i : Nat, N = 0 - i ∧ i ≤ 0 ∧ s.env 0 = .isl [] ∧ s.env 1 = .int .i64 k ∧ s.env 5 = .int .i64 (i : Int) ∧ s.nt = 45) (0) (by refine ⟨0, by omega, by omega, ?_, ?_, ?_, rfl⟩ <;> first|(simp (disch := omega);done)|omega|(simp;done)|(simp;omega)) ?_
 rintro N ⟨e, H, mm, nt⟩ ⟨i, rfl, hi, g0, g1, g5, rfl⟩
 simp only [] at g0 g1 g5
 refine .sq fun K4 hK4 => ?_
 refine .q ?_ (by simp (disch := first|omega|(simp only[ln];omega)) [g0, g5]; rfl)
 refine .c (fun h9 => ?_) (fun h9 => ?_)
 ·first | omega | (simp at h9; done) | (simp at h9; omega)
 ·try simp only[dc]at h9
  refine .exit ?_
  refine hK2 _ ?_
  refine .q ?_ (by simp (disch := first|omega|(simp only[ln];omega)) [g1]; rfl)
  refine .ret ?_
  exact hK _ _ _ _ trivial ((Fin.m))
theorem heldSegS_nil (k : Int) (hk0 : 0 ≤ k) (hk1 : k ≤ 1000000000) : FC Tryz.prog 38 [.isl [], .int .i64 k] (.int .i64 k) := by
 refine .b Tryz.func38 53 (fun nx K hK => ?_)
 refine .q ?_
 refine .sq fun K2 hK2 => ?_
 refine .q ?_
 refine .block ?_
 
 refine .loop (fun N s => ∃ i : Nat, N = 0 - i ∧ i ≤ 0 ∧ s.env 0 = .isl [] ∧ s.env 1 = .int .i64 k ∧ s.env 5 = .int .i64 (i : Int) ∧ s.nt = 53) (0) (by refine ⟨0, by omega, by omega, ?_, ?_, ?_, rfl⟩ <;> first|(simp (disch := omega);done)|omega|(simp;done)|(simp;omega)) ?_
 rintro N ⟨e, H, mm, nt⟩ ⟨i, rfl, hi, g0, g1, g5, rfl⟩
 simp only [] at g0 g1 g5
 refine .sq fun K4 hK4 => ?_
 refine .q ?_ (by simp (disch := first|omega|(simp only[ln];omega)) [g0, g5]; rfl)
 refine .c (fun h9 => ?_) (fun h9 => ?_)
 ·first | omega | (simp at h9; done) | (simp at h9; omega)
 ·try simp only[dc]at h9
  refine .exit ?_
  refine hK2 _ ?_
  refine .q ?_ (by simp (disch := first|omega|(simp only[ln];omega)) [g1]; rfl)
  refine .ret ?_
  exact hK _ _ _ _ trivial ((Fin.m))
end

theorem nsl4 {w : World} {β : Nat → Option Loc} {b : Nat → Bool} {v : Value} (h : VR w β b .nsl v) : VR w β b (.isl []) v := ⟨none, 0, 4, [], h, by simp, rfl, by intro e vs h; simp at h⟩
theorem markSegS_nil2 (k : Int) (hk0 : 0 ≤ k) (hk1 : k ≤ 1000000000) : FC Tryz.prog 37 [.nsl, .int .i64 k] (.int .i64 k) := (markSegS_nil k hk0 hk1).args fun w β b vs h => by
  obtain ⟨v, r, e, h1, h2⟩ := h
  exact ⟨v, r, e, nsl4 h1, h2⟩
theorem heldSegS_nil2 (k : Int) (hk0 : 0 ≤ k) (hk1 : k ≤ 1000000000) : FC Tryz.prog 38 [.nsl, .int .i64 k] (.int .i64 k) := (heldSegS_nil k hk0 hk1).args fun w β b vs h => by
  obtain ⟨v, r, e, h1, h2⟩ := h
  exact ⟨v, r, e, nsl4 h1, h2⟩
end Go.Proofs.YtgeecahbahgjbaaGreat

/- Walks: faults of layers; FnExactLayerFault, walked. -/
namespace Go.Proofs.YtgeecahbahgjbaaGreat
open Go Go.RowKit
set_option linter.unusedSimpArgs false
set_option linter.unusedVariables false
set_option maxRecDepth 100000
attribute [local simp] szT2 byT2 agT2 unT2 zoT2 szT3 byT3 agT3 unT3 zoT3 szT38 byT38 agT38 flT38 fdT38_0 fdT38_1 zoT38 szT41 byT41 agT41 elT41 unT41 zoT41 szT43 byT43 agT43 flT43 fdT43_0 zoT43 szT53 byT53 agT53 elT53 unT53 zoT53

theorem hbLF : hasBody Tryz.prog 258 = true := hb258
theorem gr_at {L : List (List Sp)} {i : Nat} (h : i < L.length) : (L.map rgC)[i]? = some [.isl ((gr L i).map Sp.cells)] := by rw [List.getElem?_map, gr_get h]; rfl
theorem lv_rgC (H : Heap) (k : Nat) (L : List (List Sp)) : List.map (List.map (lv H (k + 1))) (L.map rgC) = L.map rgC := by
  rw [List.map_map]; congr 1; funext r; simp [rgC, lv, lv_sp]
theorem lv_rgD (H : Heap) (L : List (List Sp)) : List.map (List.map (lv H 3) ∘ rgC) L = L.map rgC := by
  congr 1; funext r; simp [rgC, lv, lv_sp]
theorem rgC_len (L : List (List Sp)) : (∀ c ∈ L.map rgC, c.length = 1) = True := by
  simp only [eq_iff_iff, iff_true]
  intro c hc
  obtain ⟨p, _, rfl⟩ := List.mem_map.1 hc
  rfl
theorem rgC_lenx (L : List (List Sp)) : (∀ a ∈ L, 1 = (rgC a).length) = True := by
  simp only [eq_iff_iff, iff_true]
  intro c _; rfl
section
attribute [local simp] Sp.av Sp.cells Sg.av Sg.cells
theorem layerFault1_fc (a b : List Sp) (za : rgF a = 0) (zb : rgF b = 0) : FC Tryz.prog 258 [.agg [.isl (b.map Sp.cells)], .ip [.isl (a.map Sp.cells)]] (.bool (rgsM a b)) := by
 refine .b Tryz.func258 7 (fun nx K hK => ?_) (hi := by simp [idfL, idf, idfLL_iff, Sp.av, Sp.cells, Sg.av, Sg.cells])
 refine .q ?_
 refine .sq fun K2 hK2 => ?_
 refine .region ?_
 refine .kf 2 (ringsMeetI_fc a b za zb) hb259 ?_
 refine .e ?_
 refine hK2 _ ?_
 refine .ret ?_
 exact hK _ _ _ _ trivial (Fin.m)
set_option maxHeartbeats 1000000 in
theorem indexLF_fc (a : List Sp) (L : List (List Sp)) (za : rgF a = 0) (zL : ∀ r ∈ L, rgF r = 0) (hl : L.length ≤ 1099511627776) : FC Tryz.prog 282 [.isl (L.map rgC), .fn 258 [.ip [.isl (a.map Sp.cells)]]] (.int .i64 (ixF (rgsM a) L 0 : Int)) := by
 refine .b Tryz.func282 19 (fun nx K hK => ?_) (hi := by simp [idfL, idf, idfLL_iff, rgC, Sp.cells])
 refine .q ?_
 refine .sq fun K2 hK2 => ?_
 refine .q ?_ (by simp (disch := first|omega|(simp only[ln];omega)) [List.length_map]; rfl)
 refine .block ?_
 
 refine .loop (fun N s => ∃ i : Nat, N = L.length - i ∧ i ≤ L.length ∧ (ixF (rgsM a) L 0 = ixF (rgsM a) (L.drop i) i) ∧ s.env 0 = .isl (L.map rgC) ∧ s.env 1 = .fn 258 [.ip [.isl (a.map Sp.cells)]] ∧ s.env 7 = .int .i64 (L.length : Int) ∧ s.env 8 = .int .i64 (i : Int) ∧ s.nt = 19) (L.length) (by refine ⟨0, by omega, by omega, rfl, ?_, ?_, ?_, ?_, rfl⟩ <;> first|(simp (disch := omega);done)|omega|(simp;done)|(simp;omega)) ?_
 rintro N ⟨e, H, mm, nt⟩ ⟨i, rfl, hi, hv, g0, g1, g7, g8, rfl⟩
 simp only [] at g0 g1 g7 g8
 refine .q ?_ (by simp (disch := first|omega|(simp only[ln];omega)) [g7, g8]; rfl)
 refine .sq fun K5 hK5 => ?_
 refine .c (fun h9 => ?_) (fun h9 => ?_)
 ·try simp only[dc]at h9
  have hi' : i < L.length := by omega
  have hat := gr_at hi'
  rw [drop_gr hi', ixF] at hv
  have zb := zL _ (gr_mem hi')
  refine .skip ?_
  refine hK5 _ ?_
  refine .sq fun K6 hK6 => ?_
  refine .block ?_
  refine .q ?_ (by simp (disch := first|omega|(simp only[ln];omega)) [g8]; rfl)
  refine .sq fun K8 hK8 => ?_
  refine .region ?_
  refine .k 5 ?_ (by simp (disch := first|omega|(simp only[ln];omega)) [List.take_succ_cons, List.take_zero, if_pos, g0, g1, g8, hat, List.length_map]; rfl)
  refine AOPS.fcall (layerFault1_fc a (gr L i) za zb) rfl rfl (by simp; rfl) hbLF (by simp (disch := first|omega|(simp only[ln];omega)) [idf_Wd', g0, g1, g8, hat, List.length_map]) (by simp (disch := first|omega|(simp only[ln];omega)) [g0, g1, g8, hat, List.length_map]) (by simp) ?_
  simp only [puts_some, updo]
  refine .nil ?_
  refine hK8 _ ?_
  refine .c (t := rgsM a (gr L i)) (fun h16 => ?_) (fun h16 => ?_)
  ·try simp only[dc]at h16
   rw [if_pos h16] at hv
   refine .q ?_ (by simp (disch := first|omega|(simp only[ln];omega)) [g8]; rfl)
   refine .ret ?_
   exact hK _ _ _ _ trivial ((Fin.m).cast (by rw [hv]))
  ·try simp only[dc]at h16
   rw [if_neg (by rw [h16]; simp)] at hv
   refine .skip ?_
   refine hK6 _ ?_
   refine .r ?_ (by simp (disch := first|omega|(simp only[ln];omega)) [g8]; rfl)
   refine ⟨L.length - (i + 1), by omega, i + 1, rfl, by omega, hv, ?_, ?_, ?_, ?_, rfl⟩ <;> first|(simp (disch := omega) [g0, g1, g7, g8];done)|omega|(simp;done)|(simp;omega)
 ·try simp only[dc]at h9
  have hin : i = L.length := by omega
  rw [hin, List.drop_length, ixF] at hv
  refine .exit ?_
  refine hK2 _ ?_
  refine .q ?_
  refine .ret ?_
  exact hK _ _ _ _ trivial ((Fin.m).cast (by rw [hv]))
theorem containsLF_fc (a : List Sp) (L : List (List Sp)) (za : rgF a = 0) (zL : ∀ r ∈ L, rgF r = 0) (hl : L.length ≤ 1099511627776) : FC Tryz.prog 257 [.isl (L.map rgC), .fn 258 [.ip [.isl (a.map Sp.cells)]]] (.bool (L.any (rgsM a))) := by
 refine .b Tryz.func257 9 (fun nx K hK => ?_) (hi := by simp [idfL, idf, idfLL_iff, rgC, Sp.cells])
 refine .q ?_
 refine .sq fun K2 hK2 => ?_
 refine .region ?_
 refine .kf 2 (indexLF_fc a L za zL hl) hb282 ?_
 refine .e ?_
 refine hK2 _ ?_
 refine .ret ?_
 exact hK _ _ _ _ trivial ((Fin.m).cast (by rw [ixF_dec]))
set_option maxHeartbeats 1000000 in
theorem spotsIn_fc (L : List (List Sp)) (h6 : L.length ≤ 6) (hl2 : ∀ r ∈ L, r.length ≤ 1099511627776) : FC Tryz.prog 256 [.isl (L.map rgC)] (.int .i64 (lyN L : Int)) := by
 refine .b Tryz.func256 19 (fun nx K hK => ?_) (hi := by simp [idfL, idf, idfLL_iff, rgC, Sp.cells])
 refine .q ?_
 refine .q ?_
 refine .sq fun K3 hK3 => ?_
 refine .q ?_ (by simp (disch := first|omega|(simp only[ln];omega)) [List.length_map]; rfl)
 refine .block ?_
 
 refine .loop (fun N s => ∃ i : Nat, N = L.length - i ∧ i ≤ L.length ∧ s.env 3 = .int .i64 (lyN (L.take i) : Int) ∧ s.env 6 = .isl (L.map rgC) ∧ s.env 7 = .int .i64 (L.length : Int) ∧ s.env 8 = .int .i64 (i : Int) ∧ s.nt = 19) (L.length) (by refine ⟨0, by omega, by omega, ?_, ?_, ?_, ?_, rfl⟩ <;> first|(simp (disch := omega) [lyN];done)|omega|(simp;done)|(simp;omega)) ?_
 rintro N ⟨e, H, mm, nt⟩ ⟨i, rfl, hi, g3, g6, g7, g8, rfl⟩
 simp only [] at g3 g6 g7 g8
 refine .q ?_ (by simp (disch := first|omega|(simp only[ln];omega)) [g7, g8]; rfl)
 refine .sq fun K6 hK6 => ?_
 refine .c (fun h9 => ?_) (fun h9 => ?_)
 ·try simp only[dc]at h9
  have hi' : i < L.length := by omega
  have hat := gr_at hi'
  have hlr := hl2 _ (gr_mem hi')
  have hst := lyN_step hi'
  have hb := lyN_take_b (c := 1099511627776) L (i + 1) hl2 (by omega)
  have hb2 := lyN_take_b (c := 1099511627776) L i hl2 (by omega)
  refine .skip ?_
  refine hK6 _ ?_
  refine .sq fun K7 hK7 => ?_
  refine .block ?_
  refine .q ?_ (by simp (disch := first|omega|(simp only[ln];omega)) [if_pos, g6, g8, hat, List.length_map]; rfl)
  refine .r ?_ (by simp (disch := first|omega|(simp only[ln];omega)) [g3, hst, List.length_map]; rfl)
  refine hK7 _ ?_
  refine .r ?_ (by simp (disch := first|omega|(simp only[ln];omega)) [g8]; rfl)
  refine ⟨L.length - (i + 1), by omega, i + 1, rfl, by omega, ?_, ?_, ?_, ?_, rfl⟩ <;> first|(simp (disch := omega) [g3, g6, g7, g8, hst];done)|omega|(simp;done)|(simp;omega)
 ·try simp only[dc]at h9
  have hin : i = L.length := by omega
  rw [hin, List.take_length] at g3
  refine .exit ?_
  refine hK3 _ ?_
  refine .q ?_ (by simp (disch := first|omega|(simp only[ln];omega)) [g3]; rfl)
  refine .ret ?_
  exact hK _ _ _ _ trivial ((Fin.m).cast (by rfl))
set_option maxHeartbeats 4000000 in
theorem layerFaultI_fc (L : List (List Sp)) (hl : L.length ≤ 1099511627776) (hl2 : ∀ r ∈ L, r.length ≤ 1099511627776) : FC Tryz.prog 204 [.isl (L.map rgC)] (.tup [.int .i64 (lyF L).1, .int .i64 (lyF L).2]) := by
 refine .b Tryz.func204 46 (fun nx K hK => ?_) (hi := by simp [idfL, idf, idfLL_iff, rgC, Sp.cells])
 refine .q ?_
 refine .sq fun K2 hK2 => ?_
 refine .block ?_
 refine .q ?_ (by simp (disch := first|omega|(simp only[ln];omega)) [List.length_map]; rfl)
 refine .c (t := decide (6 < (L.length : Int))) (fun h9 => ?_) (fun h9 => ?_)
 ·try simp only[dc]at h9
  refine .q ?_
  refine .ret ?_
  exact hK _ _ _ _ trivial ((Fin.m).cast (by rw [lyF_many (by omega)]))
 ·try simp only[dc]at h9
  have h6 : ¬ 6 < L.length := by omega
  refine .sq fun K5 hK5 => ?_
  refine .region ?_
  refine .kf 1 (spotsIn_fc L (by omega) hl2) hb256 ?_
  refine .e ?_
  refine hK5 _ ?_
  refine .c (t := decide (20 < (lyN L : Int))) (fun h13 => ?_) (fun h13 => ?_)
  ·try simp only[dc]at h13
   refine .q ?_
   refine .ret ?_
   exact hK _ _ _ _ trivial ((Fin.m).cast (by rw [lyF_spots h6 (by omega)]))
  ·try simp only[dc]at h13
   have h20 : ¬ 20 < lyN L := by omega
   refine .skip ?_
   refine hK2 _ ?_
   refine .sq fun K7 hK7 => ?_
   refine .q ?_ (by simp (disch := first|omega|(simp only[ln];omega)) [List.length_map]; rfl)
   refine .block ?_
   
   refine .loop (fun N s => ∃ i : Nat, N = L.length - i ∧ i ≤ L.length ∧ (lyF L = (lyA (L.drop i) i).getD ((lyB [] L 0).getD (0, 0))) ∧ (∀ j, j < i → rgF (gr L j) = 0) ∧ s.env 0 = .isl (L.map rgC) ∧ s.env 17 = .isl (L.map rgC) ∧ s.env 18 = .int .i64 (L.length : Int) ∧ s.env 19 = .int .i64 (i : Int) ∧ s.nt = 46) (L.length) (by refine ⟨0, by omega, by omega, lyF_go (by omega) (by omega), fun j h => by omega, ?_, ?_, ?_, ?_, rfl⟩ <;> first|(simp (disch := omega);done)|omega|(simp;done)|(simp;omega)) ?_
   rintro N ⟨e, H, mm, nt⟩ ⟨i, rfl, hi, hv, hz0, g0, g17, g18, g19, rfl⟩
   simp only [] at g0 g17 g18 g19
   refine .q ?_ (by simp (disch := first|omega|(simp only[ln];omega)) [g18, g19]; rfl)
   refine .sq fun K10 hK10 => ?_
   refine .c (fun h20 => ?_) (fun h20 => ?_)
   ·try simp only[dc]at h20
    have hi' : i < L.length := by omega
    have hat := gr_at hi'
    have hlr := hl2 _ (gr_mem hi')
    have cf := ringFaultI_fc (gr L i) hlr
    rw [lyA_step hi'] at hv
    have fb := rgF_b (gr L i)
    generalize hF : rgF (gr L i) = fv at *
    refine .skip ?_
    refine hK10 _ ?_
    refine .sq fun K11 hK11 => ?_
    refine .block ?_
    refine .q ?_ (by simp (disch := first|omega|(simp only[ln];omega)) [if_pos, g17, g19, hat, List.length_map]; rfl)
    refine .sq fun K13 hK13 => ?_
    refine .region ?_
    refine .kf 1 cf hb22 ?_
    refine .e ?_
    refine hK13 _ ?_
    refine .q ?_
    refine .c (t := fv != 0) (fun h27 => ?_) (fun h27 => ?_) (by simp (disch := first|omega|(simp only[ln];omega)) [bne])
    ·try simp only[dc]at h27
     have hz : ¬ fv = 0 := by simpa using h27
     rw [if_neg hz] at hv
     have wr : IntKind.i64.wrap (10 + fv) = 10 + fv := wrap_i64s (by omega) (by omega)
     refine .q ?_ (by simp (disch := first|omega|(simp only[ln];omega)) [wr]; rfl)
     refine .ret ?_
     exact hK _ _ _ _ trivial ((Fin.m).cast (by rw [hv]; rfl))
    ·try simp only[dc]at h27
     have hz : fv = 0 := by simpa using h27
     refine .skip ?_
     refine hK11 _ ?_
     refine .r ?_ (by simp (disch := first|omega|(simp only[ln];omega)) [g19]; rfl)
     refine ⟨L.length - (i + 1), by omega, i + 1, rfl, by omega, by rw [hv, if_pos hz], fun j h => by
       rcases Nat.lt_or_ge j i with h1 | h1
       · exact hz0 j h1
       · rw [show j = i by omega]; exact hF.trans hz, ?_, ?_, ?_, ?_, rfl⟩ <;> first|(simp (disch := omega) [g0, g17, g18, g19];done)|omega|(simp;done)|(simp;omega)
   ·try simp only[dc]at h20
    have hin : i = L.length := by omega
    subst hin
    rw [lyA_end (Nat.le_refl _)] at hv
    have hza : ∀ r ∈ L, rgF r = 0 := fun r hr => by
      obtain ⟨k, hk, e⟩ := List.mem_iff_getElem.1 hr
      have := hz0 k hk
      rw [show gr L k = r by rw [← e]; simp [gr, hk]] at this
      exact this
    replace hv : lyF L = (lyB (L.take 0) (L.drop 0) 0).getD (0, 0) := hv
    refine .exit ?_
    refine hK7 _ ?_
    refine .sq fun K16 hK16 => ?_
    refine .q ?_ (by simp (disch := first|omega|(simp only[ln];omega)) [g0, List.length_map]; rfl)
    refine .block ?_
    
    refine .loop (fun N s => ∃ i : Nat, N = L.length - i ∧ i ≤ L.length ∧ (lyF L = (lyB (L.take i) (L.drop i) i).getD (0, 0)) ∧ s.env 0 = .isl (L.map rgC) ∧ s.env 32 = .isl (L.map rgC) ∧ s.env 33 = .int .i64 (L.length : Int) ∧ s.env 34 = .int .i64 (i : Int) ∧ s.nt = 46) (L.length) (by refine ⟨0, by omega, by omega, hv, ?_, ?_, ?_, ?_, rfl⟩ <;> first|(simp (disch := omega);done)|omega|(simp;done)|(simp;omega)) ?_
    rintro N ⟨e, H, mm, nt⟩ ⟨i, rfl, hi, hv, g0, g32, g33, g34, rfl⟩
    simp only [] at g0 g32 g33 g34
    refine .q ?_ (by simp (disch := first|omega|(simp only[ln];omega)) [g33, g34]; rfl)
    refine .sq fun K19 hK19 => ?_
    refine .c (fun h35 => ?_) (fun h35 => ?_)
    ·try simp only[dc]at h35
     have hi' : i < L.length := by omega
     have hat := gr_at hi'
     have hlr := hl2 _ (gr_mem hi')
     rw [lyB_step hi'] at hv
     have zi := hza _ (gr_mem hi')
     have tk : List.drop 0 (List.take i (L.map rgC)) = (L.take i).map rgC := by rw [List.drop_zero, List.map_take]
     have tkr := rgC_len L
     have tkr' := rgC_lenx L
     have hil : i ≤ L.length := hi
     have cc := containsLF_fc (gr L i) (L.take i) zi (fun r hr => hza r (List.mem_of_mem_take hr)) (by rw [List.length_take]; omega)
     refine .skip ?_
     refine hK19 _ ?_
     refine .sq fun K20 hK20 => ?_
     refine .block ?_
     refine .q ?_ (by simp (disch := first|omega|(simp only[ln];omega)) [if_pos, g32, g34, hat, List.length_map]; rfl)
     refine .sq fun K22 hK22 => ?_
     refine .region ?_
     refine .k 4 ?_ (by simp (disch := first|omega|(simp only[ln];omega)) [List.take_succ_cons, List.take_zero, if_pos, g0, hil, tk, tkr, tkr', List.map_take, List.length_map]; rfl)
     refine AOPS.lcall 4 (cc) rfl rfl rfl hb257 (by simp (disch := first|omega|(simp only[ln];omega)) [lv, idf_Wd', lv_rgD, lv_rgC, lv_sp, lv_int, List.drop_zero, List.map_take, g0, hil, tk, tkr, tkr', List.map_take, List.length_map]) (by simp [atm, atmL]) (by simp (disch := first|omega|(simp only[ln];omega)) [g0, hil, tk, tkr, tkr', List.map_take, List.length_map]) (by simp) ?_
     simp only [puts_some, updo]
     refine .nil ?_
     refine hK22 _ ?_
     refine .c (t := (L.take i).any (rgsM (gr L i))) (fun h43 => ?_) (fun h43 => ?_)
     ·try simp only[dc]at h43
      rw [if_pos h43] at hv
      refine .q ?_
      refine .ret ?_
      exact hK _ _ _ _ trivial ((Fin.m).cast (by rw [hv]; rfl))
     ·try simp only[dc]at h43
      rw [if_neg (by rw [h43]; simp)] at hv
      refine .skip ?_
      refine hK20 _ ?_
      refine .r ?_ (by simp (disch := first|omega|(simp only[ln];omega)) [g34]; rfl)
      refine ⟨L.length - (i + 1), by omega, i + 1, rfl, by omega, hv, ?_, ?_, ?_, ?_, rfl⟩ <;> first|(simp (disch := omega) [g0, g32, g33, g34];done)|omega|(simp;done)|(simp;omega)
    ·try simp only[dc]at h35
     have hin : i = L.length := by omega
     rw [lyB_end (by omega)] at hv
     refine .exit ?_
     refine hK16 _ ?_
     refine .q ?_
     refine .ret ?_
     exact hK _ _ _ _ trivial ((Fin.m).cast (by rw [hv]; rfl))
set_option maxHeartbeats 4000000 in
theorem layerFaultS_fc (L : List (List Sp)) (hl : L.length ≤ 1099511627776) (hl2 : ∀ r ∈ L, r.length ≤ 1099511627776) : FC Tryz.prog 202 [.isl (L.map rgC)] (.tup [.int .i64 (lyF L).1, .int .i64 (lyF L).2]) := by
 refine .b Tryz.func202 66 (fun nx K hK => ?_) (hi := by simp [idfL, idf, idfLL_iff, rgC, Sp.cells])
 refine .q ?_
 refine .sq fun K2 hK2 => ?_
 refine .q ?_ (by simp (disch := first|omega|(simp only[ln];omega)) [List.length_map]; rfl)
 refine .c (t := decide (6 < (L.length : Int))) (fun h12 => ?_) (fun h12 => ?_)
 ·try simp only[dc]at h12
  refine .q ?_
  refine .ret ?_
  exact hK _ _ _ _ trivial ((Fin.m).cast (by rw [lyF_many (by omega)]))
 ·try simp only[dc]at h12
  have h6 : ¬ 6 < L.length := by omega
  refine .skip ?_
  refine hK2 _ ?_
  refine .q ?_
  refine .sq fun K6 hK6 => ?_
  refine .q ?_
  refine .block ?_
  
  refine .loop (fun N s => ∃ i : Nat, N = L.length - i ∧ i ≤ L.length ∧ s.env 0 = .isl (L.map rgC) ∧ s.env 4 = .int .i64 (lyN (L.take i) : Int) ∧ s.env 5 = .int .i64 (i : Int) ∧ s.nt = 66) (L.length) (by refine ⟨0, by omega, by omega, ?_, ?_, ?_, rfl⟩ <;> first|(simp (disch := omega) [lyN];done)|omega|(simp;done)|(simp;omega)) ?_
  rintro N ⟨e, H, mm, nt⟩ ⟨i, rfl, hi, g0, g4, g5, rfl⟩
  simp only [] at g0 g4 g5
  refine .sq fun K8 hK8 => ?_
  refine .q ?_ (by simp (disch := first|omega|(simp only[ln];omega)) [g0, g5, List.length_map]; rfl)
  refine .c (fun h16 => ?_) (fun h16 => ?_)
  ·try simp only[dc]at h16
   have hi' : i < L.length := by omega
   have hat := gr_at hi'
   have hlr := hl2 _ (gr_mem hi')
   have hst := lyN_step hi'
   have hb := lyN_take_b (c := 1099511627776) L (i + 1) hl2 (by omega)
   have hb2 := lyN_take_b (c := 1099511627776) L i hl2 (by omega)
   refine .skip ?_
   refine hK8 _ ?_
   refine .sq fun K10 hK10 => ?_
   refine .block ?_
   refine .r ?_ (by simp (disch := first|omega|(simp only[ln];omega)) [if_pos, g0, g4, g5, hat, hst, List.length_map]; rfl)
   refine hK10 _ ?_
   refine .r ?_ (by simp (disch := first|omega|(simp only[ln];omega)) [g5]; rfl)
   refine ⟨L.length - (i + 1), by omega, i + 1, rfl, by omega, ?_, ?_, ?_, rfl⟩ <;> first|(simp (disch := omega) [g0, g4, g5, hst];done)|omega|(simp;done)|(simp;omega)
  ·try simp only[dc]at h16
   have hin : i = L.length := by omega
   rw [hin, List.take_length] at g4
   refine .exit ?_
   refine hK6 _ ?_
   refine .sq fun K11 hK11 => ?_
   refine .q ?_ (by simp (disch := first|omega|(simp only[ln];omega)) [g4]; rfl)
   refine .c (t := decide (20 < (lyN L : Int))) (fun h28 => ?_) (fun h28 => ?_)
   ·try simp only[dc]at h28
    refine .q ?_
    refine .ret ?_
    exact hK _ _ _ _ trivial ((Fin.m).cast (by rw [lyF_spots h6 (by omega)]))
   ·try simp only[dc]at h28
    have h20 : ¬ 20 < lyN L := by omega
    refine .skip ?_
    refine hK11 _ ?_
    refine .sq fun K14 hK14 => ?_
    refine .q ?_
    refine .block ?_
    
    refine .loop (fun N s => ∃ i : Nat, N = L.length - i ∧ i ≤ L.length ∧ (lyF L = (lyA (L.drop i) i).getD ((lyB [] L 0).getD (0, 0))) ∧ (∀ j, j < i → rgF (gr L j) = 0) ∧ s.env 0 = .isl (L.map rgC) ∧ s.env 6 = .int .i64 (i : Int) ∧ s.nt = 66) (L.length) (by refine ⟨0, by omega, by omega, lyF_go (by omega) (by omega), fun j h => by omega, ?_, ?_, rfl⟩ <;> first|(simp (disch := omega) [g0];done)|omega|(simp;done)|(simp;omega)) ?_
    rintro N ⟨e, H, mm, nt⟩ ⟨i, rfl, hi, hv, hz0, g0, g6, rfl⟩
    simp only [] at g0 g6
    refine .sq fun K16 hK16 => ?_
    refine .q ?_ (by simp (disch := first|omega|(simp only[ln];omega)) [g0, g6, List.length_map]; rfl)
    refine .c (fun h32 => ?_) (fun h32 => ?_)
    ·try simp only[dc]at h32
     have hi' : i < L.length := by omega
     have hat := gr_at hi'
     have hlr := hl2 _ (gr_mem hi')
     have cf := ringFaultS_fc (gr L i) hlr
     rw [lyA_step hi'] at hv
     have fb := rgF_b (gr L i)
     generalize hF : rgF (gr L i) = fv at *
     refine .skip ?_
     refine hK16 _ ?_
     refine .sq fun K18 hK18 => ?_
     refine .block ?_
     refine .sq fun K19 hK19 => ?_
     refine .region ?_
     refine .kf 4 cf hb23 ?_ (by simp (disch := first|omega|(simp only[ln];omega)) [List.take_succ_cons, List.take_zero, if_pos, g0, g6, hat, List.length_map]; rfl) (ha := by simp (disch := first|omega|(simp only[ln];omega)) [idf_Wd', if_pos, g0, g6, hat, List.length_map])
     refine .e ?_ (by simp (disch := first|omega|(simp only[ln];omega)) [if_pos, g0, g6, hat, List.length_map]; rfl)
     refine hK19 _ ?_
     refine .q ?_
     refine .c (t := fv != 0) (fun h41 => ?_) (fun h41 => ?_) (by simp (disch := first|omega|(simp only[ln];omega)) [bne])
     ·try simp only[dc]at h41
      have hz : ¬ fv = 0 := by simpa using h41
      rw [if_neg hz] at hv
      have wr : IntKind.i64.wrap (10 + fv) = 10 + fv := wrap_i64s (by omega) (by omega)
      refine .q ?_ (by simp (disch := first|omega|(simp only[ln];omega)) [g6, wr]; rfl)
      refine .ret ?_
      exact hK _ _ _ _ trivial ((Fin.m).cast (by rw [hv]; rfl))
     ·try simp only[dc]at h41
      have hz : fv = 0 := by simpa using h41
      refine .skip ?_
      refine hK18 _ ?_
      refine .r ?_ (by simp (disch := first|omega|(simp only[ln];omega)) [g6]; rfl)
      refine ⟨L.length - (i + 1), by omega, i + 1, rfl, by omega, by rw [hv, if_pos hz], fun j h => by
        rcases Nat.lt_or_ge j i with h1 | h1
        · exact hz0 j h1
        · rw [show j = i by omega]; exact hF.trans hz, ?_, ?_, rfl⟩ <;> first|(simp (disch := omega) [g0, g6];done)|omega|(simp;done)|(simp;omega)
    ·try simp only[dc]at h32
     have hin : i = L.length := by omega
     subst hin
     rw [lyA_end (Nat.le_refl _)] at hv
     have hza : ∀ r ∈ L, rgF r = 0 := fun r hr => by
       obtain ⟨k, hk, e⟩ := List.mem_iff_getElem.1 hr
       have := hz0 k hk
       rw [show gr L k = r by rw [← e]; simp [gr, hk]] at this
       exact this
     replace hv : lyF L = (lyB (L.take 0) (L.drop 0) 0).getD (0, 0) := hv
     refine .exit ?_
     refine hK14 _ ?_
     refine .sq fun K22 hK22 => ?_
     refine .q ?_
     refine .block ?_
     
     refine .loop (fun N s => ∃ i : Nat, N = L.length - i ∧ i ≤ L.length ∧ (lyF L = (lyB (L.take i) (L.drop i) i).getD (0, 0)) ∧ s.env 0 = .isl (L.map rgC) ∧ s.env 8 = .int .i64 (i : Int) ∧ s.nt = 66) (L.length) (by refine ⟨0, by omega, by omega, hv, ?_, ?_, rfl⟩ <;> first|(simp (disch := omega) [g0];done)|omega|(simp;done)|(simp;omega)) ?_
     rintro N ⟨e, H, mm, nt⟩ ⟨i, rfl, hi, hv, g0, g8, rfl⟩
     simp only [] at g0 g8
     refine .sq fun K24 hK24 => ?_
     refine .q ?_ (by simp (disch := first|omega|(simp only[ln];omega)) [g0, g8, List.length_map]; rfl)
     refine .c (fun h48 => ?_) (fun h48 => ?_)
     ·try simp only[dc]at h48
      have hi' : i < L.length := by omega
      have hat := gr_at hi'
      have hlr := hl2 _ (gr_mem hi')
      rw [lyB_step hi'] at hv
      have zi := hza _ (gr_mem hi')
      refine .skip ?_
      refine hK24 _ ?_
      refine .sq fun K26 hK26 => ?_
      refine .block ?_
      refine .q ?_
      refine .block ?_
      
      refine .loop (fun N s => ∃ k : Nat, N = i - k ∧ k ≤ i ∧ (∀ j, j < k → rgsM (gr L i) (gr L j) = false) ∧ s.env 0 = .isl (L.map rgC) ∧ s.env 8 = .int .i64 (i : Int) ∧ s.env 9 = .int .i64 (k : Int) ∧ s.nt = 66) (i) (by refine ⟨0, by omega, by omega, fun j h => by omega, ?_, ?_, ?_, rfl⟩ <;> first|(simp (disch := omega) [g0, g8];done)|omega|(simp;done)|(simp;omega)) ?_
      rintro N ⟨e, H, mm, nt⟩ ⟨k, rfl, hk, hn, g0, g8, g9, rfl⟩
      simp only [] at g0 g8 g9
      refine .sq fun K28 hK28 => ?_
      refine .q ?_ (by simp (disch := first|omega|(simp only[ln];omega)) [g8, g9]; rfl)
      refine .c (fun h53 => ?_) (fun h53 => ?_)
      ·try simp only[dc]at h53
       have hk' : k < L.length := by omega
       have hki : k < i := by omega
       have hatk := gr_at hk'
       have cm := l5Meet_fc (gr L i) (gr L k) zi (hza _ (gr_mem hk'))
       refine .skip ?_
       refine hK28 _ ?_
       refine .sq fun K30 hK30 => ?_
       refine .block ?_
       refine .sq fun K31 hK31 => ?_
       refine .d 9 ?_
       refine .k 8 (fun fs32 hfs32 => ?_) (by simp (disch := first|omega|(simp only[ln];omega)) [runDf.eq_def, runF1, runF2, stepF.eq_def, updo.eq_def, hupo.eq_def, opSto1.eq_def, List.take_succ_cons, List.take_zero, if_pos, g0, g8, g9, hat, hatk, hi', hk', List.length_map]; rfl)
       refine .f cm hb255 ?_ (ha := by simp (disch := first|omega|(simp only[ln];omega)) [idf_Wd', if_pos, g0, g8, g9, hat, hatk, hi', hk', List.length_map])
       refine .r 9 (by simp only[ln, hfs32];omega) ?_ (by simp (disch := first|omega|(simp only[ln];omega)) [runDf.eq_def, runF1, runF2, stepF.eq_def, updo.eq_def, hupo.eq_def, opSto1.eq_def, if_pos, g0, g8, g9, hat, hatk, hi', hk', List.length_map]; rfl)
       refine hK31 _ ?_
       refine .c (t := rgsM (gr L i) (gr L k)) (fun h64 => ?_) (fun h64 => ?_)
       ·try simp only[dc]at h64
        rw [if_pos ((any_take (Nat.le_of_lt hi')).2 ⟨k, hki, h64⟩)] at hv
        refine .q ?_ (by simp (disch := first|omega|(simp only[ln];omega)) [g8]; rfl)
        refine .ret ?_
        exact hK _ _ _ _ trivial ((Fin.m).cast (by rw [hv]; rfl))
       ·try simp only[dc]at h64
        refine .skip ?_
        refine hK30 _ ?_
        refine .r ?_ (by simp (disch := first|omega|(simp only[ln];omega)) [g9]; rfl)
        refine ⟨i - (k + 1), by omega, k + 1, rfl, by omega, fun j h => by
          rcases Nat.lt_or_ge j k with h1 | h1
          · exact hn j h1
          · rw [show j = k by omega]; exact h64, ?_, ?_, ?_, rfl⟩ <;> first|(simp (disch := omega) [g0, g8, g9];done)|omega|(simp;done)|(simp;omega)
      ·try simp only[dc]at h53
       have hany : (L.take i).any (rgsM (gr L i)) = false := by
         cases hc : (L.take i).any (rgsM (gr L i)) with
         | false => rfl
         | true =>
           obtain ⟨j, hj, e⟩ := (any_take (Nat.le_of_lt hi')).1 hc
           rw [hn j (by omega)] at e; simp at e
       rw [if_neg (by rw [hany]; simp)] at hv
       refine .exit ?_
       refine hK26 _ ?_
       refine .r ?_ (by simp (disch := first|omega|(simp only[ln];omega)) [g8]; rfl)
       refine ⟨L.length - (i + 1), by omega, i + 1, rfl, by omega, hv, ?_, ?_, rfl⟩ <;> first|(simp (disch := omega) [g0, g8];done)|omega|(simp;done)|(simp;omega)
     ·try simp only[dc]at h48
      have hin : i = L.length := by omega
      rw [lyB_end (by omega)] at hv
      refine .exit ?_
      refine hK22 _ ?_
      refine .q ?_
      refine .ret ?_
      exact hK _ _ _ _ trivial ((Fin.m).cast (by rw [hv]; rfl))
end

end Go.Proofs.YtgeecahbahgjbaaGreat

/- Walks: sides, depths, areas of layers. -/
namespace Go.Proofs.YtgeecahbahgjbaaGreat
open Go Go.RowKit
set_option linter.unusedSimpArgs false
set_option linter.unusedVariables false
set_option maxRecDepth 100000
attribute [local simp] szT2 byT2 agT2 unT2 zoT2

section
attribute [local simp] Sp.av Sp.cells Sg.av Sg.cells
theorem isLayer_fc (L : List (List Sp)) (hl : L.length ≤ 1099511627776) (hl2 : ∀ r ∈ L, r.length ≤ 1099511627776) : FC Tryz.prog 122 [.isl (L.map rgC)] (.bool (decide ((lyF L).1 = 0))) := by
 refine .b Tryz.func122 12 (fun nx K hK => ?_) (hi := by simp [idfL, idf, idfLL_iff, rgC, Sp.cells])
 refine .q ?_
 refine .sq fun K2 hK2 => ?_
 refine .region ?_
 refine .kf 1 (layerFaultI_fc L hl hl2) hb204 ?_
 refine .e ?_
 refine hK2 _ ?_
 refine .q ?_
 refine .ret ?_
 exact hK _ _ _ _ trivial ((Fin.mk (r := .bool ((lyF L).1 == 0)) (by simp [aRes, aResL, aRes1])).cast (by rw [beqdI]))
theorem l6Ok_fc (L : List (List Sp)) (hl : L.length ≤ 1099511627776) (hl2 : ∀ r ∈ L, r.length ≤ 1099511627776) : FC Tryz.prog 119 [.isl (L.map rgC)] (.bool (decide ((lyF L).1 = 0))) := by
 refine .b Tryz.func119 12 (fun nx K hK => ?_) (hi := by simp [idfL, idf, idfLL_iff, rgC, Sp.cells])
 refine .q ?_
 refine .sq fun K2 hK2 => ?_
 refine .region ?_
 refine .kf 1 (layerFaultS_fc L hl hl2) hb202 ?_
 refine .e ?_
 refine hK2 _ ?_
 refine .q ?_
 refine .ret ?_
 exact hK _ _ _ _ trivial ((Fin.mk (r := .bool ((lyF L).1 == 0)) (by simp [aRes, aResL, aRes1])).cast (by rw [beqdI]))
end

end Go.Proofs.YtgeecahbahgjbaaGreat
