/- Walks: where segments meet, by the reference; FnExactMeet. -/
import Derived.Test.YtmaebeknmiomnaaG0Z

namespace Go.Proofs.Ytmaebeknmiomnaa
open Go Go.RowKit
set_option linter.unusedSimpArgs false
set_option linter.unusedVariables false
set_option maxRecDepth 100000
attribute [local simp] List.getElem?_cons_zero List.getElem?_cons_succ List.getElem?_toArray runOps stepOp.eq_def agd.eq_def dstOk.eq_def opVal.eq_def opNew.eq_def opSto.eq_def ev.eq_def cv.eq_def puts_some puts_none upd_ap lst.eq_def aBin.eq_def aUn.eq_def aBi_str aBi_isl aBi_osl aBi_nsl aBi_max aBi_min aBi_max3 aConv.eq_def aLd.eq_def aLoad.eq_def aField.eq_def aFld.eq_def aIdx_isl aIdx_osl aSlc_isl aSlc_osl aSlc_str aSlc_nsl bnd.eq_def evs_nil evs_cons aBuild.eq_def aFill splice.eq_def cells_agg cells_int cells_bool cells_str cells_nil cells_nsl cells_isl cells_osl cells_ptr cells_ip cells_fn cells_Wd one_int one_bool one_str one_nil one_nsl one_isl one_osl one_ptr one_ip one_fn one_Wd aSets hupd_eq hupd_ne wrap_i64s wrap_u64s wrap_u32s wrap_u8s wd_getD wd_set wd_len wd_replicate wd_one wd_fold fz_osl hupd_same aSix.eq_def aEqS.eq_def aEqB_bool aEqB_nsl aEqB_nil
attribute [local simp] szT2 byT2 agT2 unT2 zoT2 szT4 byT4 agT4 unT4 zoT4 szT67 byT67 agT67 flT67 fdT67_0 fdT67_1 zoT67 szT69 byT69 agT69 flT69 fdT69_0 fdT69_1 zoT69 szT111 byT111 agT111 elT111 unT111 zoT111 szT113 byT113 agT113 flT113 fdT113_0 fdT113_1 zoT113 szT115 byT115 agT115 flT115 fdT115_0 fdT115_1 fdT115_2 zoT115

def z3 : AV := .agg [.bool false, .nsl, .bool false, .nsl, .bool false, .nsl]
def nX (u v : Sg) : Int := nrm (denS u v) (wayX2 u v) / gcd3 (wayX2 u v) (wayY2 u v) (denS u v)
def nY (u v : Sg) : Int := nrm (denS u v) (wayY2 u v) / gcd3 (wayX2 u v) (wayY2 u v) (denS u v)
def nW (u v : Sg) : Int := nrm (denS u v) (denS u v) / gcd3 (wayX2 u v) (wayY2 u v) (denS u v)
def l4V (u v : Sg) : AV := if crs u.a u.b v.a = 0 ∧ crs u.a u.b v.b = 0 then (if lsS (highS u v) (lowS u v) = true then .tup [.int .i64 0, z3, z3] else if lowS u v = highS u v then .tup [.int .i64 1, l3A (lowS u v).x (lowS u v).y 1, z3] else .tup [.int .i64 2, l3A (lowS u v).x (lowS u v).y 1, l3A (highS u v).x (highS u v).y 1])
  else if noWay u v = true then .tup [.int .i64 0, z3, z3] else .tup [.int .i64 1, l3A (nX u v) (nY u v) (nW u v), z3]
theorem idf_l4V (u v : Sg) : idf (l4V u v) := by
  unfold l4V; repeat' split
  all_goals simp [idf, idfL, z3, l3A, l3C, idf_Wd']
theorem sg0 {z : Int} (h : z = 0) : (sg3 z == 0) = true := by simp [sg3_zero, h]
theorem sg1 {z : Int} (h : ¬ z = 0) : (sg3 z == 0) = false := by simp [sg3_zero, h]
theorem den_ne {u v : Sg} (gu : u.good = true) (gv : v.good = true) (h0 : ¬ (crs u.a u.b v.a = 0 ∧ crs u.a u.b v.b = 0)) (h : ¬ noWay u v = true) : denS u v ≠ 0 := by
  have := (way_apart (good_ls gu) (good_ls gv) h0 (by simpa using h)).1
  rw [den_w]; omega
theorem low_good {u v : Sg} (gu : u.good = true) (gv : v.good = true) : (lowS u v).good = true := by unfold lowS; split; exact good_a gv; exact good_a gu
theorem high_good {u v : Sg} (gu : u.good = true) (gv : v.good = true) : (highS u v).good = true := by unfold highS; split; exact good_b gv; exact good_b gu

theorem l1In_fc (n a b : Int) : FC Try.prog 199 [.int .i64 n, .int .i64 a, .int .i64 b] (.bool (decide (a ≤ n) && decide (n ≤ b))) := by
  refine FC.body Try.func199 rfl (by simp [idfL, idf, idfLL_iff, idf_Wd']) (by simp [idfL, idf, idfLL_iff, idf_Wd']) 15 rfl fun nx K hK => ?_
  refine AWP.seqk fun K1 hK1 => ?_
  refine AWP.region (AOPS.all (by simp (disch := first|omega|(simp only[ln];omega)) [idf_Wd']; rfl) ?_)
  refine hK1 _ ?_
  refine AWP.seqk fun K2 hK2 => ?_
  cases h : decide (a ≤ n)
  · refine AWP.region (AOPS.all (by simp (disch := first|omega|(simp only[ln];omega)) [idf_Wd', h]; rfl) ?_)
    refine hK2 _ ?_
    refine AWP.ret ?_
    exact hK _ _ _ _ trivial ((Fin.mk (by simp [aRes, aResL, aRes1, idf_Wd']; rfl)).cast (by rw [h]; rfl))
  · refine AWP.region (AOPS.all (by simp (disch := first|omega|(simp only[ln];omega)) [idf_Wd', h]; rfl) ?_)
    refine hK2 _ ?_
    refine AWP.ret ?_
    exact hK _ _ _ _ trivial ((Fin.mk (by simp [aRes, aResL, aRes1, idf_Wd']; rfl)).cast (by rw [h]; rfl))

theorem l1InM_fc (n : Int) : FC Try.prog 199 [.int .i64 n, .int .i64 (-1000000), .int .i64 1000000] (.bool (inM n)) := l1In_fc n (-1000000) 1000000
theorem spotOkS_fc (p : Sp) : FC Try.prog 114 [p.av] (.bool p.good) := by
  refine FC.body Try.func114 rfl (by simp [idfL, idf, Sp.av, Sp.cells, Sg.av, Sg.cells]) (by simp [idfL, idf, idfLL_iff, idf_Wd', Sp.av, Sp.cells, Sg.av, Sg.cells]) 11 rfl fun nx K hK => ?_
  refine AWP.seqk fun K1 hK1 => ?_
  refine AWP.region (AOPS.all (by simp (disch := first|omega|(simp only[ln];omega)) [idf_Wd', Sp.av, Sp.cells, Sg.av, Sg.cells]; rfl) ?_)
  refine hK1 _ ?_
  refine AWP.seqk fun K2 hK2 => ?_
  cases hx : inM p.x
  · refine AWP.region ?_
    refine AOPS.runk 2 (by simp (disch := first|omega|(simp only[ln];omega)) [List.take_succ_cons, List.take_zero, idf_Wd', Sp.av, Sp.cells, Sg.av, Sg.cells, hx]; rfl) ?_
    simp only [List.drop_succ_cons, List.drop_zero]
    refine AOPS.fcall (l1InM_fc p.x) rfl rfl rfl hb199 (by simp (disch := first|omega|(simp only[ln];omega)) [idf_Wd', hx, Sp.av, Sp.cells, Sg.av, Sg.cells]) (by simp (disch := first|omega|(simp only[ln];omega)) [hx]) (by simp) ?_
    simp only [puts_some, updo]
    refine AOPS.all (by simp (disch := first|omega|(simp only[ln];omega)) [idf_Wd', Sp.av, Sp.cells, Sg.av, Sg.cells, hx]; rfl) ?_
    refine hK2 _ ?_
    refine AWP.ret ?_
    exact hK _ _ _ _ trivial ((Fin.mk (by simp [aRes, aResL, aRes1, idf_Wd', Sp.av, Sp.cells, Sg.av, Sg.cells]; rfl)).cast (by unfold Sp.good; rw [hx]; rfl))
  · refine AWP.region ?_
    refine AOPS.runk 2 (by simp (disch := first|omega|(simp only[ln];omega)) [List.take_succ_cons, List.take_zero, idf_Wd', Sp.av, Sp.cells, Sg.av, Sg.cells, hx]; rfl) ?_
    simp only [List.drop_succ_cons, List.drop_zero]
    refine AOPS.fcall (l1InM_fc p.x) rfl rfl rfl hb199 (by simp (disch := first|omega|(simp only[ln];omega)) [idf_Wd', hx, Sp.av, Sp.cells, Sg.av, Sg.cells]) (by simp (disch := first|omega|(simp only[ln];omega)) [hx]) (by simp) ?_
    simp only [puts_some, updo]
    refine AOPS.runk 3 (by simp (disch := first|omega|(simp only[ln];omega)) [List.take_succ_cons, List.take_zero, idf_Wd', Sp.av, Sp.cells, Sg.av, Sg.cells, hx]; rfl) ?_
    simp only [List.drop_succ_cons, List.drop_zero]
    refine AOPS.fcall (l1InM_fc p.y) rfl rfl rfl hb199 (by simp (disch := first|omega|(simp only[ln];omega)) [idf_Wd', hx, Sp.av, Sp.cells, Sg.av, Sg.cells]) (by simp (disch := first|omega|(simp only[ln];omega)) [hx]) (by simp) ?_
    simp only [puts_some, updo]
    refine AOPS.all (by simp (disch := first|omega|(simp only[ln];omega)) [idf_Wd', Sp.av, Sp.cells, Sg.av, Sg.cells, hx]; rfl) ?_
    refine hK2 _ ?_
    refine AWP.ret ?_
    exact hK _ _ _ _ trivial ((Fin.mk (by simp [aRes, aResL, aRes1, idf_Wd', Sp.av, Sp.cells, Sg.av, Sg.cells]; rfl)).cast (by unfold Sp.good; rw [hx]; rfl))

theorem l4Less_fc (p q : Sp) : FC Try.prog 183 [p.av, q.av] (.bool (lsS p q)) := by
  refine FC.body Try.func183 rfl (by simp [idfL, idf, Sp.av, Sp.cells, Sg.av, Sg.cells]) (by simp [idfL, idf, idfLL_iff, idf_Wd', Sp.av, Sp.cells, Sg.av, Sg.cells]) 24 rfl fun nx K hK => ?_
  refine AWP.seqk fun K1 hK1 => ?_
  refine AWP.region (AOPS.all (by simp (disch := first|omega|(simp only[ln];omega)) [idf_Wd', Sp.av, Sp.cells, Sg.av, Sg.cells]; rfl) ?_)
  refine hK1 _ ?_
  refine AWP.seqk fun K2 hK2 => ?_
  by_cases q1 : p.x < q.x
  · have hl : lsS p q = true := by simp [lsS, q1]
    have c1 : decide (p.x < q.x) = true := by simp [q1]
    refine AWP.region (AOPS.all (by simp (disch := first|omega|(simp only[ln];omega)) [idf_Wd', Sp.av, Sp.cells, Sg.av, Sg.cells, c1]; rfl) ?_)
    refine hK2 _ ?_
    refine AWP.ret ?_
    exact hK _ _ _ _ trivial ((Fin.mk (by simp [aRes, aResL, aRes1, idf_Wd', Sp.av, Sp.cells, Sg.av, Sg.cells]; rfl)).cast (by rw [hl]; try rfl))
  · have c1 : decide (p.x < q.x) = false := by simp; omega
    by_cases q2 : p.x = q.x
    · have c2 : (p.x == q.x) = true := by simp [q2]
      have hl : lsS p q = decide (p.y < q.y) := by simp [lsS, q2]
      refine AWP.region (AOPS.all (by simp (disch := first|omega|(simp only[ln];omega)) [idf_Wd', Sp.av, Sp.cells, Sg.av, Sg.cells, c1, c2]; rfl) ?_)
      refine hK2 _ ?_
      refine AWP.ret ?_
      exact hK _ _ _ _ trivial ((Fin.mk (by simp [aRes, aResL, aRes1, idf_Wd', Sp.av, Sp.cells, Sg.av, Sg.cells]; rfl)).cast (by rw [hl]))
    · have c2 : (p.x == q.x) = false := by simp [q2]
      have hl : lsS p q = false := by simp [lsS, q2]; omega
      refine AWP.region (AOPS.all (by simp (disch := first|omega|(simp only[ln];omega)) [idf_Wd', Sp.av, Sp.cells, Sg.av, Sg.cells, c1, c2]; rfl) ?_)
      refine hK2 _ ?_
      refine AWP.ret ?_
      exact hK _ _ _ _ trivial ((Fin.mk (by simp [aRes, aResL, aRes1, idf_Wd', Sp.av, Sp.cells, Sg.av, Sg.cells]; rfl)).cast (by rw [hl]; try rfl))

set_option maxHeartbeats 1000000 in
theorem l4Turn_fc (a b c : Sp) (ha : a.good = true) (hb : b.good = true) (hc : c.good = true) : FC Try.prog 182 [a.av, b.av, c.av] (.int .i64 (sg3 (crs a b c))) := by
  have pa := Sp.b ha
  have pb := Sp.b hb
  have pc := Sp.b hc
  have m1 := mul_b (u := b.x - a.x) (v := c.y - a.y) (m := 2000000) (n := 2000000) (by omega) (by omega) (by omega) (by omega) (by omega)
  have m2 := mul_b (u := b.y - a.y) (v := c.x - a.x) (m := 2000000) (n := 2000000) (by omega) (by omega) (by omega) (by omega) (by omega)
  have e : (b.x - a.x) * (c.y - a.y) - (b.y - a.y) * (c.x - a.x) = crs a b c := rfl
  refine FC.body Try.func182 rfl (by simp [idfL, idf, Sp.av, Sp.cells, Sg.av, Sg.cells]) (by simp [idfL, idf, idfLL_iff, idf_Wd', Sp.av, Sp.cells, Sg.av, Sg.cells]) 35 rfl fun nx K hK => ?_
  refine AWP.seqk fun K1 hK1 => ?_
  refine AWP.region (AOPS.all (by simp (disch := first|omega|(simp only[ln];omega)) [idf_Wd', Sp.av, Sp.cells, Sg.av, Sg.cells]; rfl) ?_)
  refine hK1 _ ?_
  refine AWP.seqk fun K2 hK2 => ?_
  refine AWP.region (AOPS.all (by simp (disch := first|omega|(simp only[ln];omega)) [idf_Wd', Sp.av, Sp.cells, Sg.av, Sg.cells]; rfl) ?_)
  refine hK2 _ ?_
  refine AWP.seqk fun K3 hK3 => ?_
  refine AWP.seqk fun K4 hK4 => ?_
  refine AWP.region (AOPS.all (by simp (disch := first|omega|(simp only[ln];omega)) [idf_Wd', Sp.av, Sp.cells, Sg.av, Sg.cells, e]; rfl) ?_)
  refine hK4 _ ?_
  refine cond_ok (decide (crs a b c < 0)) (by simp (disch := first|omega|(simp only[ln];omega))) (fun h32 => ?_) (fun h32 => ?_)
  · try simp only [decide_eq_true_eq, decide_eq_false_iff_not] at h32
    refine AWP.seqk fun K5 hK5 => ?_
    refine AWP.region (AOPS.all (by simp (disch := first|omega|(simp only[ln];omega)) [idf_Wd', Sp.av, Sp.cells, Sg.av, Sg.cells]; rfl) ?_)
    refine hK5 _ ?_
    refine AWP.ret ?_
    exact hK _ _ _ _ trivial ((Fin.mk (by simp [aRes, aResL, aRes1, idf_Wd', Sp.av, Sp.cells, Sg.av, Sg.cells]; rfl)).cast (by unfold sg3; rw [if_pos h32]))
  · try simp only [decide_eq_true_eq, decide_eq_false_iff_not] at h32
    refine AWP.skip ?_
    refine hK3 _ ?_
    refine AWP.seqk fun K6 hK6 => ?_
    refine AWP.seqk fun K7 hK7 => ?_
    refine AWP.region (AOPS.all (by simp (disch := first|omega|(simp only[ln];omega)) [idf_Wd', Sp.av, Sp.cells, Sg.av, Sg.cells, e]; rfl) ?_)
    refine hK7 _ ?_
    refine cond_ok (decide (0 < crs a b c)) (by simp (disch := first|omega|(simp only[ln];omega))) (fun h34 => ?_) (fun h34 => ?_)
    · try simp only [decide_eq_true_eq, decide_eq_false_iff_not] at h34
      refine AWP.seqk fun K8 hK8 => ?_
      refine AWP.region (AOPS.all (by simp (disch := first|omega|(simp only[ln];omega)) [idf_Wd', Sp.av, Sp.cells, Sg.av, Sg.cells]; rfl) ?_)
      refine hK8 _ ?_
      refine AWP.ret ?_
      exact hK _ _ _ _ trivial ((Fin.mk (by simp [aRes, aResL, aRes1, idf_Wd', Sp.av, Sp.cells, Sg.av, Sg.cells]; rfl)).cast (by unfold sg3; rw [if_neg h32, if_pos h34]))
    · try simp only [decide_eq_true_eq, decide_eq_false_iff_not] at h34
      refine AWP.skip ?_
      refine hK6 _ ?_
      refine AWP.seqk fun K9 hK9 => ?_
      refine AWP.region (AOPS.all (by simp (disch := first|omega|(simp only[ln];omega)) [idf_Wd', Sp.av, Sp.cells, Sg.av, Sg.cells]; rfl) ?_)
      refine hK9 _ ?_
      refine AWP.ret ?_
      exact hK _ _ _ _ trivial ((Fin.mk (by simp [aRes, aResL, aRes1, idf_Wd', Sp.av, Sp.cells, Sg.av, Sg.cells]; rfl)).cast (by unfold sg3; rw [if_neg h32, if_neg h34]))

set_option maxHeartbeats 8000000 in
theorem l4Meet_fc (u v : Sg) (gu : u.good = true) (gv : v.good = true) : FC Try.prog 95 [u.av, v.av] (l4V u v) := by
  have ua := good_a gu
  have ub := good_b gu
  have va := good_a gv
  have vb := good_b gv
  have pua := Sp.b ua
  have pub := Sp.b ub
  have pva := Sp.b va
  have pvb := Sp.b vb
  have cA := l4Turn_fc u.a u.b v.a ua ub va
  have cB := l4Turn_fc u.a u.b v.b ua ub vb
  have cC := l4Turn_fc v.a v.b u.a va vb ua
  have cD := l4Turn_fc v.a v.b u.b va vb ub
  have hnw : noWay u v = (decide (0 < sg3 (crs u.a u.b v.a) * sg3 (crs u.a u.b v.b)) || decide (0 < sg3 (crs v.a v.b u.a) * sg3 (crs v.a v.b u.b))) := rfl
  have sAB := mul_sg (crs u.a u.b v.a) (crs u.a u.b v.b)
  have sCD := mul_sg (crs v.a v.b u.a) (crs v.a v.b u.b)
  obtain ⟨A, hA⟩ : ∃ A, crs u.a u.b v.a = A := ⟨_, rfl⟩
  obtain ⟨B, hB⟩ : ∃ B, crs u.a u.b v.b = B := ⟨_, rfl⟩
  rw [hA] at cA sAB hnw
  rw [hB] at cB sAB hnw
  generalize crs v.a v.b u.a = C at *
  generalize crs v.a v.b u.b = D at *
  refine FC.body Try.func95 rfl (by simp [idfL, idf, Sp.av, Sp.cells, Sg.av, Sg.cells]) (idf_l4V u v) 181 rfl fun nx K hK => ?_
  refine AWP.seqk fun K1 hK1 => ?_
  refine AWP.region (AOPS.all (by simp (disch := first|omega|(simp only[ln];omega)) [idf_Wd', idf_numS, cells_numS, numS_fold, Sp.av, Sp.cells, Sg.av, Sg.cells, l3A, l3C]; rfl) ?_)
  refine hK1 _ ?_
  refine AWP.seqk fun K2 hK2 => ?_
  refine AWP.region ?_
  refine AOPS.runk 6 (by simp (disch := first|omega|(simp only[ln];omega)) [List.take_succ_cons, List.take_zero, idf_Wd', idf_numS, cells_numS, numS_fold, Sp.av, Sp.cells, Sg.av, Sg.cells, l3A, l3C]; rfl) ?_
  simp only [List.drop_succ_cons, List.drop_zero]
  refine AOPS.fcall (cA) rfl rfl rfl hb182 (by simp (disch := first|omega|(simp only[ln];omega)) [idf_Wd', idf_numS, cells_numS, numS_fold, Sp.av, Sp.cells, Sg.av, Sg.cells, l3A, l3C]) (by simp (disch := first|omega|(simp only[ln];omega))) (by simp) ?_
  simp only [puts_some, updo]
  refine AOPS.all (by simp (disch := first|omega|(simp only[ln];omega)) [idf_Wd', idf_numS, cells_numS, numS_fold, Sp.av, Sp.cells, Sg.av, Sg.cells, l3A, l3C]; rfl) ?_
  refine hK2 _ ?_
  refine AWP.seqk fun K3 hK3 => ?_
  refine AWP.region ?_
  refine AOPS.runk 6 (by simp (disch := first|omega|(simp only[ln];omega)) [List.take_succ_cons, List.take_zero, idf_Wd', idf_numS, cells_numS, numS_fold, Sp.av, Sp.cells, Sg.av, Sg.cells, l3A, l3C]; rfl) ?_
  simp only [List.drop_succ_cons, List.drop_zero]
  refine AOPS.fcall (cB) rfl rfl rfl hb182 (by simp (disch := first|omega|(simp only[ln];omega)) [idf_Wd', idf_numS, cells_numS, numS_fold, Sp.av, Sp.cells, Sg.av, Sg.cells, l3A, l3C]) (by simp (disch := first|omega|(simp only[ln];omega))) (by simp) ?_
  simp only [puts_some, updo]
  refine AOPS.all (by simp (disch := first|omega|(simp only[ln];omega)) [idf_Wd', idf_numS, cells_numS, numS_fold, Sp.av, Sp.cells, Sg.av, Sg.cells, l3A, l3C]; rfl) ?_
  refine hK3 _ ?_
  refine AWP.seqk fun K4 hK4 => ?_
  refine AWP.region ?_
  refine AOPS.runk 6 (by simp (disch := first|omega|(simp only[ln];omega)) [List.take_succ_cons, List.take_zero, idf_Wd', idf_numS, cells_numS, numS_fold, Sp.av, Sp.cells, Sg.av, Sg.cells, l3A, l3C]; rfl) ?_
  simp only [List.drop_succ_cons, List.drop_zero]
  refine AOPS.fcall (cC) rfl rfl rfl hb182 (by simp (disch := first|omega|(simp only[ln];omega)) [idf_Wd', idf_numS, cells_numS, numS_fold, Sp.av, Sp.cells, Sg.av, Sg.cells, l3A, l3C]) (by simp (disch := first|omega|(simp only[ln];omega))) (by simp) ?_
  simp only [puts_some, updo]
  refine AOPS.all (by simp (disch := first|omega|(simp only[ln];omega)) [idf_Wd', idf_numS, cells_numS, numS_fold, Sp.av, Sp.cells, Sg.av, Sg.cells, l3A, l3C]; rfl) ?_
  refine hK4 _ ?_
  refine AWP.seqk fun K5 hK5 => ?_
  refine AWP.region ?_
  refine AOPS.runk 6 (by simp (disch := first|omega|(simp only[ln];omega)) [List.take_succ_cons, List.take_zero, idf_Wd', idf_numS, cells_numS, numS_fold, Sp.av, Sp.cells, Sg.av, Sg.cells, l3A, l3C]; rfl) ?_
  simp only [List.drop_succ_cons, List.drop_zero]
  refine AOPS.fcall (cD) rfl rfl rfl hb182 (by simp (disch := first|omega|(simp only[ln];omega)) [idf_Wd', idf_numS, cells_numS, numS_fold, Sp.av, Sp.cells, Sg.av, Sg.cells, l3A, l3C]) (by simp (disch := first|omega|(simp only[ln];omega))) (by simp) ?_
  simp only [puts_some, updo]
  refine AOPS.all (by simp (disch := first|omega|(simp only[ln];omega)) [idf_Wd', idf_numS, cells_numS, numS_fold, Sp.av, Sp.cells, Sg.av, Sg.cells, l3A, l3C]; rfl) ?_
  refine hK5 _ ?_
  refine AWP.seqk fun K6 hK6 => ?_
  refine AWP.seqk fun K7 hK7 => ?_
  by_cases hA0 : A = 0
  · have c1 := sg0 hA0
    by_cases hB0 : B = 0
    · have c2 := sg0 hB0
      have h0 : A = 0 ∧ B = 0 := ⟨hA0, hB0⟩
      refine AWP.region (AOPS.all (by simp (disch := first|omega|(simp only[ln];omega)) [idf_Wd', idf_numS, cells_numS, numS_fold, Sp.av, Sp.cells, Sg.av, Sg.cells, l3A, l3C, c1, c2]; rfl) ?_)
      refine hK7 _ ?_
      refine cond_ok _ (by simp (disch := first|omega|(simp only[ln];omega)); rfl) (fun h54 => ?_) (fun h54 => ?_)
      · try simp only [decide_eq_true_eq, decide_eq_false_iff_not] at h54
        refine AWP.seqk fun K8 hK8 => ?_
        refine AWP.region (AOPS.all (by simp (disch := first|omega|(simp only[ln];omega)) [idf_Wd', idf_numS, cells_numS, numS_fold, Sp.av, Sp.cells, Sg.av, Sg.cells, l3A, l3C]; rfl) ?_)
        refine hK8 _ ?_
        refine AWP.seqk fun K9 hK9 => ?_
        have J9 : ∀ s : St, (∃ lo : Sp, lo = lowS u v ∧ s.env 2 = .ptr nx 0 0 ∧ s.env 3 = .ptr (nx + 1) 0 0 ∧ s.env 5 = .ptr (nx + 1 + 1) 0 0 ∧ s.env 6 = .ptr (nx + 1 + 1 + 1) 0 0 ∧ s.env 11 = .ptr (nx + 1 + 1 + 1 + 1) 0 0 ∧ s.heap nx = some (4, [[.int .i64 u.a.x, .int .i64 u.a.y, .int .i64 u.b.x, .int .i64 u.b.y]]) ∧ s.heap (nx + 1) = some (4, [[.int .i64 v.a.x, .int .i64 v.a.y, .int .i64 v.b.x, .int .i64 v.b.y]]) ∧ s.heap (nx + 1 + 1) = some (6, [[.bool false, .nsl, .bool false, .nsl, .bool false, .nsl]]) ∧ s.heap (nx + 1 + 1 + 1) = some (6, [[.bool false, .nsl, .bool false, .nsl, .bool false, .nsl]]) ∧ s.heap (nx + 1 + 1 + 1 + 1) = some (2, [[.int .i64 lo.x, .int .i64 lo.y]]) ∧ (nx + 1 + 1 + 1 + 1) < s.nx ∧ s.nt = 181) → K9 s := by
          rintro ⟨e, H, mm, nt⟩ ⟨lo, hlo, g2, g3, g5, g6, g11, hU, hV, hP, hQ, hL, hm, rfl⟩
          simp only [] at g2 g3 g5 g6 g11 hU hV hP hQ hL hm
          refine hK9 _ ?_
          refine AWP.seqk fun K10 hK10 => ?_
          refine AWP.region (AOPS.all (by simp (disch := first|omega|(simp only[ln];omega)) [idf_Wd', idf_numS, cells_numS, numS_fold, Sp.av, Sp.cells, Sg.av, Sg.cells, l3A, l3C, g2, g3, g5, g6, g11, hU, hV, hP, hQ, hL]; rfl) ?_)
          refine hK10 _ ?_
          refine AWP.seqk fun K11 hK11 => ?_
          have J11 : ∀ s : St, (∃ (lo hi : Sp) (ib : Nat), lo = lowS u v ∧ hi = highS u v ∧ s.env 2 = .ptr nx 0 0 ∧ s.env 3 = .ptr (nx + 1) 0 0 ∧ s.env 5 = .ptr (nx + 1 + 1) 0 0 ∧ s.env 6 = .ptr (nx + 1 + 1 + 1) 0 0 ∧ s.env 11 = .ptr (nx + 1 + 1 + 1 + 1) 0 0 ∧ s.heap nx = some (4, [[.int .i64 u.a.x, .int .i64 u.a.y, .int .i64 u.b.x, .int .i64 u.b.y]]) ∧ s.heap (nx + 1) = some (4, [[.int .i64 v.a.x, .int .i64 v.a.y, .int .i64 v.b.x, .int .i64 v.b.y]]) ∧ s.heap (nx + 1 + 1) = some (6, [[.bool false, .nsl, .bool false, .nsl, .bool false, .nsl]]) ∧ s.heap (nx + 1 + 1 + 1) = some (6, [[.bool false, .nsl, .bool false, .nsl, .bool false, .nsl]]) ∧ s.heap (nx + 1 + 1 + 1 + 1) = some (2, [[.int .i64 lo.x, .int .i64 lo.y]]) ∧ s.env 12 = .ptr ib 0 0 ∧ s.heap ib = some (2, [[.int .i64 hi.x, .int .i64 hi.y]]) ∧ (nx + 1 + 1 + 1 + 1) < ib ∧ ib < s.nx ∧ s.nt = 181) → K11 s := by
            clear g2 g3 g5 g6 g11 hU hV hP hQ hL hm hlo lo
            rintro ⟨e, H, mm, nt⟩ ⟨lo, hi, ib, hlo, hhi, g2, g3, g5, g6, g11, hU, hV, hP, hQ, hL, g12, hI, hib, hm, rfl⟩
            simp only [] at g2 g3 g5 g6 g11 g12 hU hV hP hQ hL hI hm
            have hli : l4V u v = if lsS hi lo = true then .tup [.int .i64 0, z3, z3] else if lo = hi then .tup [.int .i64 1, l3A lo.x lo.y 1, z3] else .tup [.int .i64 2, l3A lo.x lo.y 1, l3A hi.x hi.y 1] := by unfold l4V; rw [hA, hB, if_pos h0, hlo, hhi]
            have pl := Sp.b (by rw [hlo]; exact low_good gu gv : lo.good = true)
            have ph := Sp.b (by rw [hhi]; exact high_good gu gv : hi.good = true)
            clear hlo hhi
            refine hK11 _ ?_
            refine AWP.seqk fun K12 hK12 => ?_
            refine AWP.seqk fun K13 hK13 => ?_
            refine AWP.region ?_
            refine AOPS.runk 2 (by simp (disch := first|omega|(simp only[ln];omega)) [List.take_succ_cons, List.take_zero, idf_Wd', idf_numS, cells_numS, numS_fold, Sp.av, Sp.cells, Sg.av, Sg.cells, l3A, l3C, g2, g3, g5, g6, g11, hU, hV, hP, hQ, hL, g12, hI]; rfl) ?_
            simp only [List.drop_succ_cons, List.drop_zero]
            refine AOPS.fcall (l4Less_fc hi lo) rfl rfl rfl hb183 (by simp (disch := first|omega|(simp only[ln];omega)) [idf_Wd', g2, g3, g5, g6, g11, hU, hV, hP, hQ, hL, g12, hI, idf_numS, cells_numS, numS_fold, Sp.av, Sp.cells, Sg.av, Sg.cells, l3A, l3C]) (by simp (disch := first|omega|(simp only[ln];omega)) [g2, g3, g5, g6, g11, hU, hV, hP, hQ, hL, g12, hI]) (by simp) ?_
            simp only [puts_some, updo]
            refine AOPS.nil ?_
            refine hK13 _ ?_
            refine cond_ok (lsS hi lo) (by simp (disch := first|omega|(simp only[ln];omega))) (fun h73 => ?_) (fun h73 => ?_)
            · try simp only [decide_eq_true_eq, decide_eq_false_iff_not] at h73
              refine AWP.seqk fun K14 hK14 => ?_
              refine AWP.region (AOPS.all (by simp (disch := first|omega|(simp only[ln];omega)) [idf_Wd', idf_numS, cells_numS, numS_fold, Sp.av, Sp.cells, Sg.av, Sg.cells, l3A, l3C, g2, g3, g5, g6, g11, hU, hV, hP, hQ, hL]; rfl) ?_)
              refine hK14 _ ?_
              refine AWP.ret ?_
              exact hK _ _ _ _ trivial ((Fin.mk (by simp (disch := omega) [aRes, aResL, aRes1, g5, g6, idf_Wd', idf_numS, cells_numS, numS_fold, Sp.av, Sp.cells, Sg.av, Sg.cells, l3A, l3C]; rfl)).cast (by rw [hli, if_pos h73]; rfl))
            · try simp only [decide_eq_true_eq, decide_eq_false_iff_not] at h73
              refine AWP.skip ?_
              refine hK12 _ ?_
              refine AWP.seqk fun K15 hK15 => ?_
              refine AWP.seqk fun K16 hK16 => ?_
              refine AWP.region (AOPS.all (by simp (disch := first|omega|(simp only[ln];omega)) [idf_Wd', idf_numS, cells_numS, numS_fold, Sp.av, Sp.cells, Sg.av, Sg.cells, l3A, l3C, g2, g3, g5, g6, g11, hU, hV, hP, hQ, hL, g12, hI, eqW2]; rfl) ?_)
              refine hK16 _ ?_
              refine cond_ok (decide (lo = hi)) (by simp (disch := first|omega|(simp only[ln];omega))) (fun h78 => ?_) (fun h78 => ?_)
              · try simp only [decide_eq_true_eq, decide_eq_false_iff_not] at h78
                refine AWP.seqk fun K17 hK17 => ?_
                refine AWP.region ?_
                refine AOPS.runk 1 (by simp (disch := first|omega|(simp only[ln];omega)) [List.take_succ_cons, List.take_zero, idf_Wd', idf_numS, cells_numS, numS_fold, Sp.av, Sp.cells, Sg.av, Sg.cells, l3A, l3C, g2, g3, g5, g6, g11, hU, hV, hP, hQ, hL]; rfl) ?_
                simp only [List.drop_succ_cons, List.drop_zero]
                refine AOPS.fcall (l3Spot_fc lo.x lo.y (by omega) (by omega) (by omega) (by omega)) rfl rfl rfl hb123 (by simp (disch := first|omega|(simp only[ln];omega)) [idf_Wd', g2, g3, g5, g6, g11, hU, hV, hP, hQ, hL, idf_numS, cells_numS, numS_fold, Sp.av, Sp.cells, Sg.av, Sg.cells, l3A, l3C]) (by simp (disch := first|omega|(simp only[ln];omega)) [g2, g3, g5, g6, g11, hU, hV, hP, hQ, hL]) (by simp) ?_
                simp only [puts_some, updo]
                refine AOPS.all (by simp (disch := first|omega|(simp only[ln];omega)) [idf_Wd', idf_numS, cells_numS, numS_fold, Sp.av, Sp.cells, Sg.av, Sg.cells, l3A, l3C, g2, g3, g5, g6, g11, hU, hV, hP, hQ, hL]; rfl) ?_
                refine hK17 _ ?_
                refine AWP.ret ?_
                exact hK _ _ _ _ trivial ((Fin.mk (by simp (disch := omega) [aRes, aResL, aRes1, g5, g6, idf_Wd', idf_numS, cells_numS, numS_fold, Sp.av, Sp.cells, Sg.av, Sg.cells, l3A, l3C]; rfl)).cast (by rw [hli, if_neg (by rw [h73]; simp), if_pos h78]; rfl))
              · try simp only [decide_eq_true_eq, decide_eq_false_iff_not] at h78
                refine AWP.skip ?_
                refine hK15 _ ?_
                refine AWP.seqk fun K18 hK18 => ?_
                refine AWP.old fun hold => ?_
                refine AWP.draw 4 Try.checked.mixed (by kernel_rfl) (by simp) ?_
                simp only [List.take_succ_cons, List.take_zero, List.drop_succ_cons, List.drop_zero]
                refine DP.runFk 1 (by simp (disch := first|omega|(simp only[ln];omega)) [runDf.eq_def, runF1, runF2, stepF.eq_def, updo.eq_def, hupo.eq_def, opSto1.eq_def, List.take_succ_cons, List.take_zero, idf_Wd', idf_numS, cells_numS, numS_fold, Sp.av, Sp.cells, Sg.av, Sg.cells, l3A, l3C, g2, g3, g5, g6, g11, hU, hV, hP, hQ, hL, g12, hI]; rfl) fun fs19 hfs19 => ?_
                replace hfs19 : fs19.length = 1 := hfs19.trans rfl
                simp only [List.drop_succ_cons, List.drop_zero]
                refine DP.fcall (l3Spot_fc lo.x lo.y (by omega) (by omega) (by omega) (by omega)) rfl rfl rfl hb123 (by simp (disch := first|omega|(simp only[ln];omega)) [idf_Wd', g2, g3, g5, g6, g11, hU, hV, hP, hQ, hL, g12, hI, idf_numS, cells_numS, numS_fold, Sp.av, Sp.cells, Sg.av, Sg.cells, l3A, l3C]) (by simp (disch := first|omega|(simp only[ln];omega)) [g2, g3, g5, g6, g11, hU, hV, hP, hQ, hL, g12, hI]) (by simp) ?_
                simp only [updo]
                refine DP.runF1q (by simp (disch := first|omega|(simp only[ln];omega)) [runDf.eq_def, runF1, runF2, stepF.eq_def, updo.eq_def, hupo.eq_def, opSto1.eq_def, idf_Wd', idf_numS, cells_numS, numS_fold, Sp.av, Sp.cells, Sg.av, Sg.cells, l3A, l3C, g2, g3, g5, g6, g11, hU, hV, hP, hQ, hL, g12, hI]; rfl) fun fq20 hfq20 => ?_
                simp [qids, asksB, Op.operands, topId] at hfq20
                simp only [updo]
                refine DP.fcall (l3Spot_fc hi.x hi.y (by omega) (by omega) (by omega) (by omega)) rfl rfl rfl hb123 (by simp (disch := first|omega|(simp only[ln];omega)) [idf_Wd', g2, g3, g5, g6, g11, hU, hV, hP, hQ, hL, g12, hI, idf_numS, cells_numS, numS_fold, Sp.av, Sp.cells, Sg.av, Sg.cells, l3A, l3C]) (by simp (disch := first|omega|(simp only[ln];omega)) [g2, g3, g5, g6, g11, hU, hV, hP, hQ, hL, g12, hI]) (by simp) ?_
                simp only [updo]
                refine DQ.asg1 _ rfl rfl ?_
                simp only [updo]
                refine DQ.sto1 (m := 4) [2, 3] _ (by simp (disch := first|omega|(simp only[ln];omega)) [runDf.eq_def, runF1, runF2, stepF.eq_def, updo.eq_def, hupo.eq_def, opSto1.eq_def, idf_Wd', idf_numS, cells_numS, numS_fold, Sp.av, Sp.cells, Sg.av, Sg.cells, l3A, l3C, g2, g3, g5, g6, g11, hU, hV, hP, hQ, hL, g12, hI]; rfl) rfl (by simp only [List.length_append, List.length_cons, List.length_nil, hfs19]; omega) (by kernel_rfl) (by intro k f hk hex; simp only [List.mem_cons, List.not_mem_nil, or_false] at hex; rcases hex with rfl | rfl <;> (simp [List.getElem?_append, hfs19] at hk; subst hk; refine ⟨?_, by first | omega | (simp; done) | (simp; omega)⟩; simp [qids, asksB, Op.operands, Call.operands, topId, numS, numI, Wd, hfq20, g2, g3, g5, g6, g11, g12]; try omega)) ?_
                try simp only []
                refine DQ.sto1 (m := 4) [] _ (by simp (disch := first|omega|(simp only[ln];omega)) [runDf.eq_def, runF1, runF2, stepF.eq_def, updo.eq_def, hupo.eq_def, opSto1.eq_def, idf_Wd', idf_numS, cells_numS, numS_fold, Sp.av, Sp.cells, Sg.av, Sg.cells, l3A, l3C, g2, g3, g5, g6, g11, hU, hV, hP, hQ, hL, g12, hI]; rfl) rfl (by simp only [List.length_append, List.length_cons, List.length_nil, hfs19]; omega) (by kernel_rfl) (by intro k f hk hex; simp only [List.not_mem_nil] at hex) ?_
                try simp only []
                refine hK18 _ ?_
                refine AWP.ret ?_
                exact hK _ _ _ _ trivial ((Fin.mk (by simp (disch := omega) [aRes, aResL, aRes1, g5, g6, idf_Wd', idf_numS, cells_numS, numS_fold, Sp.av, Sp.cells, Sg.av, Sg.cells, l3A, l3C]; rfl)).cast (by rw [hli, if_neg (by rw [h73]; simp), if_neg h78]; rfl))
          refine AWP.seqk fun K21 hK21 => ?_
          refine AWP.region ?_
          refine AOPS.runk 3 (by simp (disch := first|omega|(simp only[ln];omega)) [List.take_succ_cons, List.take_zero, idf_Wd', idf_numS, cells_numS, numS_fold, Sp.av, Sp.cells, Sg.av, Sg.cells, l3A, l3C, g2, g3, g5, g6, g11, hU, hV, hP, hQ, hL]; rfl) ?_
          simp only [List.drop_succ_cons, List.drop_zero]
          refine AOPS.fcall (l4Less_fc v.b u.b) rfl rfl rfl hb183 (by simp (disch := first|omega|(simp only[ln];omega)) [idf_Wd', g2, g3, g5, g6, g11, hU, hV, hP, hQ, hL, idf_numS, cells_numS, numS_fold, Sp.av, Sp.cells, Sg.av, Sg.cells, l3A, l3C]) (by simp (disch := first|omega|(simp only[ln];omega)) [g2, g3, g5, g6, g11, hU, hV, hP, hQ, hL]) (by simp) ?_
          simp only [puts_some, updo]
          refine AOPS.nil ?_
          refine hK21 _ ?_
          refine cond_ok (lsS v.b u.b) (by simp (disch := first|omega|(simp only[ln];omega))) (fun h68 => ?_) (fun h68 => ?_)
          · try simp only [decide_eq_true_eq, decide_eq_false_iff_not] at h68
            refine AWP.region (AOPS.all (by simp (disch := first|omega|(simp only[ln];omega)) [idf_Wd', idf_numS, cells_numS, numS_fold, Sp.av, Sp.cells, Sg.av, Sg.cells, l3A, l3C, g2, g3, g5, g6, g11, hU, hV, hP, hQ, hL]; rfl) ?_)
            refine J11 _ ?_
            exact ⟨lo, v.b, mm, hlo, by unfold highS; rw [if_pos h68], by simp [g2, g3, g5, g6, g11], by simp [g2, g3, g5, g6, g11], by simp [g2, g3, g5, g6, g11], by simp [g2, g3, g5, g6, g11], by simp [g2, g3, g5, g6, g11], by simp (disch := omega) [hU, hV, hP, hQ, hL], by simp (disch := omega) [hU, hV, hP, hQ, hL], by simp (disch := omega) [hU, hV, hP, hQ, hL], by simp (disch := omega) [hU, hV, hP, hQ, hL], by simp (disch := omega) [hU, hV, hP, hQ, hL], by simp, by simp (disch := omega), by omega, by first | omega | (simp; done) | (simp; omega), rfl⟩
          · try simp only [decide_eq_true_eq, decide_eq_false_iff_not] at h68
            refine AWP.skip ?_
            refine J11 _ ?_
            exact ⟨lo, u.b, mm, hlo, by unfold highS; rw [h68]; rfl, by simp [g2, g3, g5, g6, g11], by simp [g2, g3, g5, g6, g11], by simp [g2, g3, g5, g6, g11], by simp [g2, g3, g5, g6, g11], by simp [g2, g3, g5, g6, g11], by simp (disch := omega) [hU, hV, hP, hQ, hL], by simp (disch := omega) [hU, hV, hP, hQ, hL], by simp (disch := omega) [hU, hV, hP, hQ, hL], by simp (disch := omega) [hU, hV, hP, hQ, hL], by simp (disch := omega) [hU, hV, hP, hQ, hL], by simp, by simp (disch := omega), by omega, by first | omega | (simp; done) | (simp; omega), rfl⟩
        refine AWP.seqk fun K22 hK22 => ?_
        refine AWP.region ?_
        refine AOPS.runk 3 (by simp (disch := first|omega|(simp only[ln];omega)) [List.take_succ_cons, List.take_zero, idf_Wd', idf_numS, cells_numS, numS_fold, Sp.av, Sp.cells, Sg.av, Sg.cells, l3A, l3C]; rfl) ?_
        simp only [List.drop_succ_cons, List.drop_zero]
        refine AOPS.fcall (l4Less_fc u.a v.a) rfl rfl rfl hb183 (by simp (disch := first|omega|(simp only[ln];omega)) [idf_Wd', idf_numS, cells_numS, numS_fold, Sp.av, Sp.cells, Sg.av, Sg.cells, l3A, l3C]) (by simp (disch := first|omega|(simp only[ln];omega))) (by simp) ?_
        simp only [puts_some, updo]
        refine AOPS.nil ?_
        refine hK22 _ ?_
        refine cond_ok (lsS u.a v.a) (by simp (disch := first|omega|(simp only[ln];omega))) (fun h60 => ?_) (fun h60 => ?_)
        · try simp only [decide_eq_true_eq, decide_eq_false_iff_not] at h60
          refine AWP.region (AOPS.all (by simp (disch := first|omega|(simp only[ln];omega)) [idf_Wd', idf_numS, cells_numS, numS_fold, Sp.av, Sp.cells, Sg.av, Sg.cells, l3A, l3C]; rfl) ?_)
          refine J9 _ ?_
          exact ⟨v.a, by unfold lowS; rw [if_pos h60], by simp, by simp, by simp, by simp, by simp, by simp (disch := omega), by simp (disch := omega), by simp (disch := omega), by simp (disch := omega), by simp (disch := omega), by first | omega | (simp; done) | (simp; omega), rfl⟩
        · try simp only [decide_eq_true_eq, decide_eq_false_iff_not] at h60
          refine AWP.skip ?_
          refine J9 _ ?_
          exact ⟨u.a, by unfold lowS; rw [h60]; rfl, by simp, by simp, by simp, by simp, by simp, by simp (disch := omega), by simp (disch := omega), by simp (disch := omega), by simp (disch := omega), by simp (disch := omega), by first | omega | (simp; done) | (simp; omega), rfl⟩
      · simp at h54
    · have c2 := sg1 hB0
      have h0 : ¬ (A = 0 ∧ B = 0) := fun h => hB0 h.2
      refine AWP.region (AOPS.all (by simp (disch := first|omega|(simp only[ln];omega)) [idf_Wd', idf_numS, cells_numS, numS_fold, Sp.av, Sp.cells, Sg.av, Sg.cells, l3A, l3C, c1, c2]; rfl) ?_)
      refine hK7 _ ?_
      refine cond_ok _ (by simp (disch := first|omega|(simp only[ln];omega)); rfl) (fun h54 => ?_) (fun h54 => ?_)
      · simp at h54
      · try simp only [decide_eq_true_eq, decide_eq_false_iff_not] at h54
        refine AWP.skip ?_
        refine hK6 _ ?_
        refine AWP.seqk fun K23 hK23 => ?_
        refine AWP.seqk fun K24 hK24 => ?_
        cases q3 : decide (0 < sg3 A * sg3 B)
        · refine AWP.region (AOPS.all (by simp (disch := first|omega|(simp only[ln];omega)) [idf_Wd', idf_numS, cells_numS, numS_fold, Sp.av, Sp.cells, Sg.av, Sg.cells, l3A, l3C, q3]; rfl) ?_)
          refine hK24 _ ?_
          refine cond_ok (decide (0 < sg3 C * sg3 D)) (by simp (disch := first|omega|(simp only[ln];omega))) (fun h95 => ?_) (fun h95 => ?_)
          · try simp only [decide_eq_true_eq, decide_eq_false_iff_not] at h95
            have hw : noWay u v = true := by rw [hnw, q3]; simp [h95]
            refine AWP.seqk fun K25 hK25 => ?_
            refine AWP.region (AOPS.all (by simp (disch := first|omega|(simp only[ln];omega)) [idf_Wd', idf_numS, cells_numS, numS_fold, Sp.av, Sp.cells, Sg.av, Sg.cells, l3A, l3C]; rfl) ?_)
            refine hK25 _ ?_
            refine AWP.ret ?_
            exact hK _ _ _ _ trivial ((Fin.mk (by simp [aRes, aResL, aRes1, idf_Wd', idf_numS, cells_numS, numS_fold, Sp.av, Sp.cells, Sg.av, Sg.cells, l3A, l3C]; rfl)).cast (by unfold l4V; rw [hA, hB, if_neg h0, if_pos hw]; try rfl))
          · try simp only [decide_eq_true_eq, decide_eq_false_iff_not] at h95
            have hw : ¬ noWay u v = true := by rw [hnw, q3]; simp; omega
            have m1 := mul_b (u := u.b.x - u.a.x) (v := v.b.y - v.a.y) (m := 2000000) (n := 2000000) (by omega) (by omega) (by omega) (by omega) (by omega)
            have m2 := mul_b (u := u.b.y - u.a.y) (v := v.b.x - v.a.x) (m := 2000000) (n := 2000000) (by omega) (by omega) (by omega) (by omega) (by omega)
            have m3 := mul_b (u := v.a.x - u.a.x) (v := v.b.y - v.a.y) (m := 2000000) (n := 2000000) (by omega) (by omega) (by omega) (by omega) (by omega)
            have m4 := mul_b (u := v.a.y - u.a.y) (v := v.b.x - v.a.x) (m := 2000000) (n := 2000000) (by omega) (by omega) (by omega) (by omega) (by omega)
            have hdn := den_ne gu gv (by rw [hA, hB]; exact h0) hw
            have eD : denS u v = (u.b.x - u.a.x) * (v.b.y - v.a.y) - (u.b.y - u.a.y) * (v.b.x - v.a.x) := rfl
            have eN : numT u v = (v.a.x - u.a.x) * (v.b.y - v.a.y) - (v.a.y - u.a.y) * (v.b.x - v.a.x) := rfl
            have b1 : Bg 1 u.a.x := Bg.i64 (by omega) (by omega)
            have b2 : Bg 1 u.a.y := Bg.i64 (by omega) (by omega)
            have b3 : Bg 1 (denS u v) := Bg.i64 (by rw [eD]; omega) (by rw [eD]; omega)
            have b4 : Bg 1 (numT u v) := Bg.i64 (by rw [eN]; omega) (by rw [eN]; omega)
            have b5 : Bg 1 (u.b.x - u.a.x) := Bg.i64 (by omega) (by omega)
            have b6 : Bg 1 (u.b.y - u.a.y) := Bg.i64 (by omega) (by omega)
            have i1 := l1Int_fc (denS u v) (by rw [eD]; omega) (by rw [eD]; omega)
            have i2 := l1Int_fc (numT u v) (by rw [eN]; omega) (by rw [eN]; omega)
            rw [eD] at i1
            rw [eN] at i2
            have x1 := l1Mul_fc b1 b3 (by omega) (by omega)
            have x2 := l1Mul_fc b5 b4 (by omega) (by omega)
            have x3 := l1Add_fc (b1.mul b3) (b5.mul b4) (by omega) (by omega)
            have y1 := l1Mul_fc b2 b3 (by omega) (by omega)
            have y2 := l1Mul_fc b6 b4 (by omega) (by omega)
            have y3 := l1Add_fc (b2.mul b3) (b6.mul b4) (by omega) (by omega)
            have l3 := l3Make_fc (j := 3) (wayX2 u v) (wayY2 u v) (denS u v) hdn (((b1.mul b3).add (b5.mul b4)).le (by omega)) (((b2.mul b3).add (b6.mul b4)).le (by omega)) (b3.le (by omega)) (by omega) (by omega)
            unfold wayX2 wayY2 at l3
            rw [eD] at x1 x3 y1 y3
            rw [eN] at x2 x3 y2 y3
            simp only [eD, eN] at l3
            have eV : l3A (nX u v) (nY u v) (nW u v) = l3A (nX u v) (nY u v) (nW u v) := rfl
            unfold nX nY nW wayX2 wayY2 at eV
            simp only [eD, eN] at eV
            have hl4 : l4V u v = .tup [.int .i64 1, l3A (nX u v) (nY u v) (nW u v), z3] := by unfold l4V; rw [hA, hB, if_neg h0, if_neg hw]
            unfold nX nY nW wayX2 wayY2 at hl4
            simp only [eD, eN] at hl4
            clear b3 b4 eV
            refine AWP.skip ?_
            refine hK23 _ ?_
            refine AWP.seqk fun K26 hK26 => ?_
            refine AWP.region (AOPS.all (by simp (disch := first|omega|(simp only[ln];omega)) [idf_Wd', idf_numS, cells_numS, numS_fold, Sp.av, Sp.cells, Sg.av, Sg.cells, l3A, l3C]; rfl) ?_)
            refine hK26 _ ?_
            refine AWP.seqk fun K27 hK27 => ?_
            refine AWP.region (AOPS.all (by simp (disch := first|omega|(simp only[ln];omega)) [idf_Wd', idf_numS, cells_numS, numS_fold, Sp.av, Sp.cells, Sg.av, Sg.cells, l3A, l3C]; rfl) ?_)
            refine hK27 _ ?_
            refine AWP.seqk fun K28 hK28 => ?_
            refine AWP.region (AOPS.all (by simp (disch := first|omega|(simp only[ln];omega)) [idf_Wd', idf_numS, cells_numS, numS_fold, Sp.av, Sp.cells, Sg.av, Sg.cells, l3A, l3C]; rfl) ?_)
            refine hK28 _ ?_
            refine AWP.seqk fun K29 hK29 => ?_
            refine AWP.region (AOPS.all (by simp (disch := first|omega|(simp only[ln];omega)) [idf_Wd', idf_numS, cells_numS, numS_fold, Sp.av, Sp.cells, Sg.av, Sg.cells, l3A, l3C]; rfl) ?_)
            refine hK29 _ ?_
            refine AWP.seqk fun K30 hK30 => ?_
            refine AWP.region ?_
            refine AOPS.runk 7 (by simp (disch := first|omega|(simp only[ln];omega)) [List.take_succ_cons, List.take_zero, idf_Wd', idf_numS, cells_numS, numS_fold, Sp.av, Sp.cells, Sg.av, Sg.cells, l3A, l3C]; rfl) ?_
            simp only [List.drop_succ_cons, List.drop_zero]
            refine AOPS.fcall (i1) rfl rfl rfl hb106 (by simp (disch := first|omega|(simp only[ln];omega)) [idf_Wd', idf_numS, cells_numS, numS_fold, Sp.av, Sp.cells, Sg.av, Sg.cells, l3A, l3C]) (by simp (disch := first|omega|(simp only[ln];omega))) (by simp) ?_
            simp only [puts_some, updo]
            refine AOPS.all (by simp (disch := first|omega|(simp only[ln];omega)) [idf_Wd', idf_numS, cells_numS, numS_fold, Sp.av, Sp.cells, Sg.av, Sg.cells, l3A, l3C]; rfl) ?_
            refine hK30 _ ?_
            refine AWP.seqk fun K31 hK31 => ?_
            refine AWP.region ?_
            refine AOPS.runk 19 (by simp (disch := first|omega|(simp only[ln];omega)) [List.take_succ_cons, List.take_zero, idf_Wd', idf_numS, cells_numS, numS_fold, Sp.av, Sp.cells, Sg.av, Sg.cells, l3A, l3C]; rfl) ?_
            simp only [List.drop_succ_cons, List.drop_zero]
            refine AOPS.fcall (i2) rfl rfl rfl hb106 (by simp (disch := first|omega|(simp only[ln];omega)) [idf_Wd', idf_numS, cells_numS, numS_fold, Sp.av, Sp.cells, Sg.av, Sg.cells, l3A, l3C]) (by simp (disch := first|omega|(simp only[ln];omega))) (by simp) ?_
            simp only [puts_some, updo]
            refine AOPS.all (by simp (disch := first|omega|(simp only[ln];omega)) [idf_Wd', idf_numS, cells_numS, numS_fold, Sp.av, Sp.cells, Sg.av, Sg.cells, l3A, l3C]; rfl) ?_
            refine hK31 _ ?_
            refine AWP.seqk fun K32 hK32 => ?_
            refine AWP.draw 12 Try.checked.mixed (by kernel_rfl) (by simp) ?_
            simp only [List.take_succ_cons, List.take_zero, List.drop_succ_cons, List.drop_zero]
            refine DP.runFk 3 (by simp (disch := first|omega|(simp only[ln];omega)) [runDf.eq_def, runF1, runF2, stepF.eq_def, updo.eq_def, hupo.eq_def, opSto1.eq_def, List.take_succ_cons, List.take_zero, idf_Wd', idf_numS, cells_numS, numS_fold, Sp.av, Sp.cells, Sg.av, Sg.cells, l3A, l3C]; rfl) fun fs33 hfs33 => ?_
            replace hfs33 : fs33.length = 3 := hfs33.trans rfl
            simp only [List.drop_succ_cons, List.drop_zero]
            refine DP.fcall (l1Int_fc u.a.x (by omega) (by omega)) rfl rfl rfl hb106 (by simp (disch := first|omega|(simp only[ln];omega)) [idf_Wd', idf_numS, cells_numS, numS_fold, Sp.av, Sp.cells, Sg.av, Sg.cells, l3A, l3C]) (by simp (disch := first|omega|(simp only[ln];omega))) (by simp) ?_
            simp only [updo]
            refine DP.runFk 1 (by simp (disch := first|omega|(simp only[ln];omega)) [runDf.eq_def, runF1, runF2, stepF.eq_def, updo.eq_def, hupo.eq_def, opSto1.eq_def, List.take_succ_cons, List.take_zero, idf_Wd', idf_numS, cells_numS, numS_fold, Sp.av, Sp.cells, Sg.av, Sg.cells, l3A, l3C]; rfl) fun fs34 hfs34 => ?_
            replace hfs34 : fs34.length = 1 := hfs34.trans rfl
            simp only [List.drop_succ_cons, List.drop_zero]
            refine DP.fcall (x1) rfl rfl rfl hb105 (by simp (disch := first|omega|(simp only[ln];omega)) [idf_Wd', idf_numS, cells_numS, numS_fold, Sp.av, Sp.cells, Sg.av, Sg.cells, l3A, l3C]) (by simp (disch := first|omega|(simp only[ln];omega))) (by simp) ?_
            simp only [updo]
            refine DP.runFk 1 (by simp (disch := first|omega|(simp only[ln];omega)) [runDf.eq_def, runF1, runF2, stepF.eq_def, updo.eq_def, hupo.eq_def, opSto1.eq_def, List.take_succ_cons, List.take_zero, idf_Wd', idf_numS, cells_numS, numS_fold, Sp.av, Sp.cells, Sg.av, Sg.cells, l3A, l3C]; rfl) fun fs35 hfs35 => ?_
            replace hfs35 : fs35.length = 1 := hfs35.trans rfl
            simp only [List.drop_succ_cons, List.drop_zero]
            refine DP.fcall (l1Int_fc (u.b.x - u.a.x) (by omega) (by omega)) rfl rfl rfl hb106 (by simp (disch := first|omega|(simp only[ln];omega)) [idf_Wd', idf_numS, cells_numS, numS_fold, Sp.av, Sp.cells, Sg.av, Sg.cells, l3A, l3C]) (by simp (disch := first|omega|(simp only[ln];omega))) (by simp) ?_
            simp only [updo]
            refine DP.runFk 1 (by simp (disch := first|omega|(simp only[ln];omega)) [runDf.eq_def, runF1, runF2, stepF.eq_def, updo.eq_def, hupo.eq_def, opSto1.eq_def, List.take_succ_cons, List.take_zero, idf_Wd', idf_numS, cells_numS, numS_fold, Sp.av, Sp.cells, Sg.av, Sg.cells, l3A, l3C]; rfl) fun fs36 hfs36 => ?_
            replace hfs36 : fs36.length = 1 := hfs36.trans rfl
            simp only [List.drop_succ_cons, List.drop_zero]
            refine DP.fcall (x2) rfl rfl rfl hb105 (by simp (disch := first|omega|(simp only[ln];omega)) [idf_Wd', idf_numS, cells_numS, numS_fold, Sp.av, Sp.cells, Sg.av, Sg.cells, l3A, l3C]) (by simp (disch := first|omega|(simp only[ln];omega))) (by simp) ?_
            simp only [updo]
            refine DP.fcall (x3) rfl rfl rfl hb104 (by simp (disch := first|omega|(simp only[ln];omega)) [idf_Wd', idf_numS, cells_numS, numS_fold, Sp.av, Sp.cells, Sg.av, Sg.cells, l3A, l3C]) (by simp (disch := first|omega|(simp only[ln];omega))) (by simp) ?_
            simp only [updo]
            refine DP.runFk 1 (by simp (disch := first|omega|(simp only[ln];omega)) [runDf.eq_def, runF1, runF2, stepF.eq_def, updo.eq_def, hupo.eq_def, opSto1.eq_def, List.take_succ_cons, List.take_zero, idf_Wd', idf_numS, cells_numS, numS_fold, Sp.av, Sp.cells, Sg.av, Sg.cells, l3A, l3C]; rfl) fun fs37 hfs37 => ?_
            replace hfs37 : fs37.length = 1 := hfs37.trans rfl
            simp only [List.drop_succ_cons, List.drop_zero]
            refine DQ.runF (m := 12) (by simp only [List.length_append, List.length_cons, List.length_nil, hfs33, hfs34, hfs35, hfs36, hfs37]; omega) _ _ _ (by kernel_rfl) rfl (by simp (disch := first|omega|(simp only[ln];omega)) [runDf.eq_def, runF1, runF2, stepF.eq_def, updo.eq_def, hupo.eq_def, opSto1.eq_def, idf_Wd', idf_numS, cells_numS, numS_fold, Sp.av, Sp.cells, Sg.av, Sg.cells, l3A, l3C]; rfl) ?_
            refine hK32 _ ?_
            refine AWP.seqk fun K38 hK38 => ?_
            refine AWP.draw 12 Try.checked.mixed (by kernel_rfl) (by simp) ?_
            simp only [List.take_succ_cons, List.take_zero, List.drop_succ_cons, List.drop_zero]
            refine DP.runFk 3 (by simp (disch := first|omega|(simp only[ln];omega)) [runDf.eq_def, runF1, runF2, stepF.eq_def, updo.eq_def, hupo.eq_def, opSto1.eq_def, List.take_succ_cons, List.take_zero, idf_Wd', idf_numS, cells_numS, numS_fold, Sp.av, Sp.cells, Sg.av, Sg.cells, l3A, l3C]; rfl) fun fs39 hfs39 => ?_
            replace hfs39 : fs39.length = 3 := hfs39.trans rfl
            simp only [List.drop_succ_cons, List.drop_zero]
            refine DP.fcall (l1Int_fc u.a.y (by omega) (by omega)) rfl rfl rfl hb106 (by simp (disch := first|omega|(simp only[ln];omega)) [idf_Wd', idf_numS, cells_numS, numS_fold, Sp.av, Sp.cells, Sg.av, Sg.cells, l3A, l3C]) (by simp (disch := first|omega|(simp only[ln];omega))) (by simp) ?_
            simp only [updo]
            refine DP.runFk 1 (by simp (disch := first|omega|(simp only[ln];omega)) [runDf.eq_def, runF1, runF2, stepF.eq_def, updo.eq_def, hupo.eq_def, opSto1.eq_def, List.take_succ_cons, List.take_zero, idf_Wd', idf_numS, cells_numS, numS_fold, Sp.av, Sp.cells, Sg.av, Sg.cells, l3A, l3C]; rfl) fun fs40 hfs40 => ?_
            replace hfs40 : fs40.length = 1 := hfs40.trans rfl
            simp only [List.drop_succ_cons, List.drop_zero]
            refine DP.fcall (y1) rfl rfl rfl hb105 (by simp (disch := first|omega|(simp only[ln];omega)) [idf_Wd', idf_numS, cells_numS, numS_fold, Sp.av, Sp.cells, Sg.av, Sg.cells, l3A, l3C]) (by simp (disch := first|omega|(simp only[ln];omega))) (by simp) ?_
            simp only [updo]
            refine DP.runFk 1 (by simp (disch := first|omega|(simp only[ln];omega)) [runDf.eq_def, runF1, runF2, stepF.eq_def, updo.eq_def, hupo.eq_def, opSto1.eq_def, List.take_succ_cons, List.take_zero, idf_Wd', idf_numS, cells_numS, numS_fold, Sp.av, Sp.cells, Sg.av, Sg.cells, l3A, l3C]; rfl) fun fs41 hfs41 => ?_
            replace hfs41 : fs41.length = 1 := hfs41.trans rfl
            simp only [List.drop_succ_cons, List.drop_zero]
            refine DP.fcall (l1Int_fc (u.b.y - u.a.y) (by omega) (by omega)) rfl rfl rfl hb106 (by simp (disch := first|omega|(simp only[ln];omega)) [idf_Wd', idf_numS, cells_numS, numS_fold, Sp.av, Sp.cells, Sg.av, Sg.cells, l3A, l3C]) (by simp (disch := first|omega|(simp only[ln];omega))) (by simp) ?_
            simp only [updo]
            refine DP.runFk 1 (by simp (disch := first|omega|(simp only[ln];omega)) [runDf.eq_def, runF1, runF2, stepF.eq_def, updo.eq_def, hupo.eq_def, opSto1.eq_def, List.take_succ_cons, List.take_zero, idf_Wd', idf_numS, cells_numS, numS_fold, Sp.av, Sp.cells, Sg.av, Sg.cells, l3A, l3C]; rfl) fun fs42 hfs42 => ?_
            replace hfs42 : fs42.length = 1 := hfs42.trans rfl
            simp only [List.drop_succ_cons, List.drop_zero]
            refine DP.fcall (y2) rfl rfl rfl hb105 (by simp (disch := first|omega|(simp only[ln];omega)) [idf_Wd', idf_numS, cells_numS, numS_fold, Sp.av, Sp.cells, Sg.av, Sg.cells, l3A, l3C]) (by simp (disch := first|omega|(simp only[ln];omega))) (by simp) ?_
            simp only [updo]
            refine DP.fcall (y3) rfl rfl rfl hb104 (by simp (disch := first|omega|(simp only[ln];omega)) [idf_Wd', idf_numS, cells_numS, numS_fold, Sp.av, Sp.cells, Sg.av, Sg.cells, l3A, l3C]) (by simp (disch := first|omega|(simp only[ln];omega))) (by simp) ?_
            simp only [updo]
            refine DP.runFk 1 (by simp (disch := first|omega|(simp only[ln];omega)) [runDf.eq_def, runF1, runF2, stepF.eq_def, updo.eq_def, hupo.eq_def, opSto1.eq_def, List.take_succ_cons, List.take_zero, idf_Wd', idf_numS, cells_numS, numS_fold, Sp.av, Sp.cells, Sg.av, Sg.cells, l3A, l3C]; rfl) fun fs43 hfs43 => ?_
            replace hfs43 : fs43.length = 1 := hfs43.trans rfl
            simp only [List.drop_succ_cons, List.drop_zero]
            refine DQ.runF (m := 12) (by simp only [List.length_append, List.length_cons, List.length_nil, hfs39, hfs40, hfs41, hfs42, hfs43]; omega) _ _ _ (by kernel_rfl) rfl (by simp (disch := first|omega|(simp only[ln];omega)) [runDf.eq_def, runF1, runF2, stepF.eq_def, updo.eq_def, hupo.eq_def, opSto1.eq_def, idf_Wd', idf_numS, cells_numS, numS_fold, Sp.av, Sp.cells, Sg.av, Sg.cells, l3A, l3C]; rfl) ?_
            refine hK38 _ ?_
            refine AWP.seqk fun K44 hK44 => ?_
            refine AWP.region ?_
            refine AOPS.runk 3 (by simp (disch := first|omega|(simp only[ln];omega)) [List.take_succ_cons, List.take_zero, idf_Wd', idf_numS, cells_numS, numS_fold, Sp.av, Sp.cells, Sg.av, Sg.cells, l3A, l3C]; rfl) ?_
            simp only [List.drop_succ_cons, List.drop_zero]
            refine AOPS.fcall (l3) rfl rfl rfl hb103 (by simp (disch := first|omega|(simp only[ln];omega)) [idf_Wd', idf_numS, cells_numS, numS_fold, Sp.av, Sp.cells, Sg.av, Sg.cells, l3A, l3C]) (by simp (disch := first|omega|(simp only[ln];omega))) (by simp) ?_
            simp only [puts_some, updo]
            refine AOPS.all (by simp (disch := first|omega|(simp only[ln];omega)) [idf_Wd', idf_numS, cells_numS, numS_fold, Sp.av, Sp.cells, Sg.av, Sg.cells, l3A, l3C]; rfl) ?_
            refine hK44 _ ?_
            refine AWP.ret ?_
            exact hK _ _ _ _ trivial ((Fin.mk (by simp [aRes, aResL, aRes1, idf_Wd', idf_numS, cells_numS, numS_fold, Sp.av, Sp.cells, Sg.av, Sg.cells, l3A, l3C]; rfl)).cast (by rw [hl4]; rfl))
        · refine AWP.region (AOPS.all (by simp (disch := first|omega|(simp only[ln];omega)) [idf_Wd', idf_numS, cells_numS, numS_fold, Sp.av, Sp.cells, Sg.av, Sg.cells, l3A, l3C, q3]; rfl) ?_)
          refine hK24 _ ?_
          refine cond_ok _ (by simp (disch := first|omega|(simp only[ln];omega)); rfl) (fun h95 => ?_) (fun h95 => ?_)
          · try simp only [decide_eq_true_eq, decide_eq_false_iff_not] at h95
            have hw : noWay u v = true := by rw [hnw, q3]; rfl
            refine AWP.seqk fun K45 hK45 => ?_
            refine AWP.region (AOPS.all (by simp (disch := first|omega|(simp only[ln];omega)) [idf_Wd', idf_numS, cells_numS, numS_fold, Sp.av, Sp.cells, Sg.av, Sg.cells, l3A, l3C]; rfl) ?_)
            refine hK45 _ ?_
            refine AWP.ret ?_
            exact hK _ _ _ _ trivial ((Fin.mk (by simp [aRes, aResL, aRes1, idf_Wd', idf_numS, cells_numS, numS_fold, Sp.av, Sp.cells, Sg.av, Sg.cells, l3A, l3C]; rfl)).cast (by unfold l4V; rw [hA, hB, if_neg h0, if_pos hw]; try rfl))
          · simp at h95
  · have c1 := sg1 hA0
    have h0 : ¬ (A = 0 ∧ B = 0) := fun h => hA0 h.1
    refine AWP.region (AOPS.all (by simp (disch := first|omega|(simp only[ln];omega)) [idf_Wd', idf_numS, cells_numS, numS_fold, Sp.av, Sp.cells, Sg.av, Sg.cells, l3A, l3C, c1]; rfl) ?_)
    refine hK7 _ ?_
    refine cond_ok _ (by simp (disch := first|omega|(simp only[ln];omega)); rfl) (fun h54 => ?_) (fun h54 => ?_)
    · simp at h54
    · try simp only [decide_eq_true_eq, decide_eq_false_iff_not] at h54
      refine AWP.skip ?_
      refine hK6 _ ?_
      refine AWP.seqk fun K46 hK46 => ?_
      refine AWP.seqk fun K47 hK47 => ?_
      cases q3 : decide (0 < sg3 A * sg3 B)
      · refine AWP.region (AOPS.all (by simp (disch := first|omega|(simp only[ln];omega)) [idf_Wd', idf_numS, cells_numS, numS_fold, Sp.av, Sp.cells, Sg.av, Sg.cells, l3A, l3C, q3]; rfl) ?_)
        refine hK47 _ ?_
        refine cond_ok (decide (0 < sg3 C * sg3 D)) (by simp (disch := first|omega|(simp only[ln];omega))) (fun h95 => ?_) (fun h95 => ?_)
        · try simp only [decide_eq_true_eq, decide_eq_false_iff_not] at h95
          have hw : noWay u v = true := by rw [hnw, q3]; simp [h95]
          refine AWP.seqk fun K48 hK48 => ?_
          refine AWP.region (AOPS.all (by simp (disch := first|omega|(simp only[ln];omega)) [idf_Wd', idf_numS, cells_numS, numS_fold, Sp.av, Sp.cells, Sg.av, Sg.cells, l3A, l3C]; rfl) ?_)
          refine hK48 _ ?_
          refine AWP.ret ?_
          exact hK _ _ _ _ trivial ((Fin.mk (by simp [aRes, aResL, aRes1, idf_Wd', idf_numS, cells_numS, numS_fold, Sp.av, Sp.cells, Sg.av, Sg.cells, l3A, l3C]; rfl)).cast (by unfold l4V; rw [hA, hB, if_neg h0, if_pos hw]; try rfl))
        · try simp only [decide_eq_true_eq, decide_eq_false_iff_not] at h95
          have hw : ¬ noWay u v = true := by rw [hnw, q3]; simp; omega
          have m1 := mul_b (u := u.b.x - u.a.x) (v := v.b.y - v.a.y) (m := 2000000) (n := 2000000) (by omega) (by omega) (by omega) (by omega) (by omega)
          have m2 := mul_b (u := u.b.y - u.a.y) (v := v.b.x - v.a.x) (m := 2000000) (n := 2000000) (by omega) (by omega) (by omega) (by omega) (by omega)
          have m3 := mul_b (u := v.a.x - u.a.x) (v := v.b.y - v.a.y) (m := 2000000) (n := 2000000) (by omega) (by omega) (by omega) (by omega) (by omega)
          have m4 := mul_b (u := v.a.y - u.a.y) (v := v.b.x - v.a.x) (m := 2000000) (n := 2000000) (by omega) (by omega) (by omega) (by omega) (by omega)
          have hdn := den_ne gu gv (by rw [hA, hB]; exact h0) hw
          have eD : denS u v = (u.b.x - u.a.x) * (v.b.y - v.a.y) - (u.b.y - u.a.y) * (v.b.x - v.a.x) := rfl
          have eN : numT u v = (v.a.x - u.a.x) * (v.b.y - v.a.y) - (v.a.y - u.a.y) * (v.b.x - v.a.x) := rfl
          have b1 : Bg 1 u.a.x := Bg.i64 (by omega) (by omega)
          have b2 : Bg 1 u.a.y := Bg.i64 (by omega) (by omega)
          have b3 : Bg 1 (denS u v) := Bg.i64 (by rw [eD]; omega) (by rw [eD]; omega)
          have b4 : Bg 1 (numT u v) := Bg.i64 (by rw [eN]; omega) (by rw [eN]; omega)
          have b5 : Bg 1 (u.b.x - u.a.x) := Bg.i64 (by omega) (by omega)
          have b6 : Bg 1 (u.b.y - u.a.y) := Bg.i64 (by omega) (by omega)
          have i1 := l1Int_fc (denS u v) (by rw [eD]; omega) (by rw [eD]; omega)
          have i2 := l1Int_fc (numT u v) (by rw [eN]; omega) (by rw [eN]; omega)
          rw [eD] at i1
          rw [eN] at i2
          have x1 := l1Mul_fc b1 b3 (by omega) (by omega)
          have x2 := l1Mul_fc b5 b4 (by omega) (by omega)
          have x3 := l1Add_fc (b1.mul b3) (b5.mul b4) (by omega) (by omega)
          have y1 := l1Mul_fc b2 b3 (by omega) (by omega)
          have y2 := l1Mul_fc b6 b4 (by omega) (by omega)
          have y3 := l1Add_fc (b2.mul b3) (b6.mul b4) (by omega) (by omega)
          have l3 := l3Make_fc (j := 3) (wayX2 u v) (wayY2 u v) (denS u v) hdn (((b1.mul b3).add (b5.mul b4)).le (by omega)) (((b2.mul b3).add (b6.mul b4)).le (by omega)) (b3.le (by omega)) (by omega) (by omega)
          unfold wayX2 wayY2 at l3
          rw [eD] at x1 x3 y1 y3
          rw [eN] at x2 x3 y2 y3
          simp only [eD, eN] at l3
          have eV : l3A (nX u v) (nY u v) (nW u v) = l3A (nX u v) (nY u v) (nW u v) := rfl
          unfold nX nY nW wayX2 wayY2 at eV
          simp only [eD, eN] at eV
          have hl4 : l4V u v = .tup [.int .i64 1, l3A (nX u v) (nY u v) (nW u v), z3] := by unfold l4V; rw [hA, hB, if_neg h0, if_neg hw]
          unfold nX nY nW wayX2 wayY2 at hl4
          simp only [eD, eN] at hl4
          clear b3 b4 eV
          refine AWP.skip ?_
          refine hK46 _ ?_
          refine AWP.seqk fun K49 hK49 => ?_
          refine AWP.region (AOPS.all (by simp (disch := first|omega|(simp only[ln];omega)) [idf_Wd', idf_numS, cells_numS, numS_fold, Sp.av, Sp.cells, Sg.av, Sg.cells, l3A, l3C]; rfl) ?_)
          refine hK49 _ ?_
          refine AWP.seqk fun K50 hK50 => ?_
          refine AWP.region (AOPS.all (by simp (disch := first|omega|(simp only[ln];omega)) [idf_Wd', idf_numS, cells_numS, numS_fold, Sp.av, Sp.cells, Sg.av, Sg.cells, l3A, l3C]; rfl) ?_)
          refine hK50 _ ?_
          refine AWP.seqk fun K51 hK51 => ?_
          refine AWP.region (AOPS.all (by simp (disch := first|omega|(simp only[ln];omega)) [idf_Wd', idf_numS, cells_numS, numS_fold, Sp.av, Sp.cells, Sg.av, Sg.cells, l3A, l3C]; rfl) ?_)
          refine hK51 _ ?_
          refine AWP.seqk fun K52 hK52 => ?_
          refine AWP.region (AOPS.all (by simp (disch := first|omega|(simp only[ln];omega)) [idf_Wd', idf_numS, cells_numS, numS_fold, Sp.av, Sp.cells, Sg.av, Sg.cells, l3A, l3C]; rfl) ?_)
          refine hK52 _ ?_
          refine AWP.seqk fun K53 hK53 => ?_
          refine AWP.region ?_
          refine AOPS.runk 7 (by simp (disch := first|omega|(simp only[ln];omega)) [List.take_succ_cons, List.take_zero, idf_Wd', idf_numS, cells_numS, numS_fold, Sp.av, Sp.cells, Sg.av, Sg.cells, l3A, l3C]; rfl) ?_
          simp only [List.drop_succ_cons, List.drop_zero]
          refine AOPS.fcall (i1) rfl rfl rfl hb106 (by simp (disch := first|omega|(simp only[ln];omega)) [idf_Wd', idf_numS, cells_numS, numS_fold, Sp.av, Sp.cells, Sg.av, Sg.cells, l3A, l3C]) (by simp (disch := first|omega|(simp only[ln];omega))) (by simp) ?_
          simp only [puts_some, updo]
          refine AOPS.all (by simp (disch := first|omega|(simp only[ln];omega)) [idf_Wd', idf_numS, cells_numS, numS_fold, Sp.av, Sp.cells, Sg.av, Sg.cells, l3A, l3C]; rfl) ?_
          refine hK53 _ ?_
          refine AWP.seqk fun K54 hK54 => ?_
          refine AWP.region ?_
          refine AOPS.runk 19 (by simp (disch := first|omega|(simp only[ln];omega)) [List.take_succ_cons, List.take_zero, idf_Wd', idf_numS, cells_numS, numS_fold, Sp.av, Sp.cells, Sg.av, Sg.cells, l3A, l3C]; rfl) ?_
          simp only [List.drop_succ_cons, List.drop_zero]
          refine AOPS.fcall (i2) rfl rfl rfl hb106 (by simp (disch := first|omega|(simp only[ln];omega)) [idf_Wd', idf_numS, cells_numS, numS_fold, Sp.av, Sp.cells, Sg.av, Sg.cells, l3A, l3C]) (by simp (disch := first|omega|(simp only[ln];omega))) (by simp) ?_
          simp only [puts_some, updo]
          refine AOPS.all (by simp (disch := first|omega|(simp only[ln];omega)) [idf_Wd', idf_numS, cells_numS, numS_fold, Sp.av, Sp.cells, Sg.av, Sg.cells, l3A, l3C]; rfl) ?_
          refine hK54 _ ?_
          refine AWP.seqk fun K55 hK55 => ?_
          refine AWP.draw 12 Try.checked.mixed (by kernel_rfl) (by simp) ?_
          simp only [List.take_succ_cons, List.take_zero, List.drop_succ_cons, List.drop_zero]
          refine DP.runFk 3 (by simp (disch := first|omega|(simp only[ln];omega)) [runDf.eq_def, runF1, runF2, stepF.eq_def, updo.eq_def, hupo.eq_def, opSto1.eq_def, List.take_succ_cons, List.take_zero, idf_Wd', idf_numS, cells_numS, numS_fold, Sp.av, Sp.cells, Sg.av, Sg.cells, l3A, l3C]; rfl) fun fs56 hfs56 => ?_
          replace hfs56 : fs56.length = 3 := hfs56.trans rfl
          simp only [List.drop_succ_cons, List.drop_zero]
          refine DP.fcall (l1Int_fc u.a.x (by omega) (by omega)) rfl rfl rfl hb106 (by simp (disch := first|omega|(simp only[ln];omega)) [idf_Wd', idf_numS, cells_numS, numS_fold, Sp.av, Sp.cells, Sg.av, Sg.cells, l3A, l3C]) (by simp (disch := first|omega|(simp only[ln];omega))) (by simp) ?_
          simp only [updo]
          refine DP.runFk 1 (by simp (disch := first|omega|(simp only[ln];omega)) [runDf.eq_def, runF1, runF2, stepF.eq_def, updo.eq_def, hupo.eq_def, opSto1.eq_def, List.take_succ_cons, List.take_zero, idf_Wd', idf_numS, cells_numS, numS_fold, Sp.av, Sp.cells, Sg.av, Sg.cells, l3A, l3C]; rfl) fun fs57 hfs57 => ?_
          replace hfs57 : fs57.length = 1 := hfs57.trans rfl
          simp only [List.drop_succ_cons, List.drop_zero]
          refine DP.fcall (x1) rfl rfl rfl hb105 (by simp (disch := first|omega|(simp only[ln];omega)) [idf_Wd', idf_numS, cells_numS, numS_fold, Sp.av, Sp.cells, Sg.av, Sg.cells, l3A, l3C]) (by simp (disch := first|omega|(simp only[ln];omega))) (by simp) ?_
          simp only [updo]
          refine DP.runFk 1 (by simp (disch := first|omega|(simp only[ln];omega)) [runDf.eq_def, runF1, runF2, stepF.eq_def, updo.eq_def, hupo.eq_def, opSto1.eq_def, List.take_succ_cons, List.take_zero, idf_Wd', idf_numS, cells_numS, numS_fold, Sp.av, Sp.cells, Sg.av, Sg.cells, l3A, l3C]; rfl) fun fs58 hfs58 => ?_
          replace hfs58 : fs58.length = 1 := hfs58.trans rfl
          simp only [List.drop_succ_cons, List.drop_zero]
          refine DP.fcall (l1Int_fc (u.b.x - u.a.x) (by omega) (by omega)) rfl rfl rfl hb106 (by simp (disch := first|omega|(simp only[ln];omega)) [idf_Wd', idf_numS, cells_numS, numS_fold, Sp.av, Sp.cells, Sg.av, Sg.cells, l3A, l3C]) (by simp (disch := first|omega|(simp only[ln];omega))) (by simp) ?_
          simp only [updo]
          refine DP.runFk 1 (by simp (disch := first|omega|(simp only[ln];omega)) [runDf.eq_def, runF1, runF2, stepF.eq_def, updo.eq_def, hupo.eq_def, opSto1.eq_def, List.take_succ_cons, List.take_zero, idf_Wd', idf_numS, cells_numS, numS_fold, Sp.av, Sp.cells, Sg.av, Sg.cells, l3A, l3C]; rfl) fun fs59 hfs59 => ?_
          replace hfs59 : fs59.length = 1 := hfs59.trans rfl
          simp only [List.drop_succ_cons, List.drop_zero]
          refine DP.fcall (x2) rfl rfl rfl hb105 (by simp (disch := first|omega|(simp only[ln];omega)) [idf_Wd', idf_numS, cells_numS, numS_fold, Sp.av, Sp.cells, Sg.av, Sg.cells, l3A, l3C]) (by simp (disch := first|omega|(simp only[ln];omega))) (by simp) ?_
          simp only [updo]
          refine DP.fcall (x3) rfl rfl rfl hb104 (by simp (disch := first|omega|(simp only[ln];omega)) [idf_Wd', idf_numS, cells_numS, numS_fold, Sp.av, Sp.cells, Sg.av, Sg.cells, l3A, l3C]) (by simp (disch := first|omega|(simp only[ln];omega))) (by simp) ?_
          simp only [updo]
          refine DP.runFk 1 (by simp (disch := first|omega|(simp only[ln];omega)) [runDf.eq_def, runF1, runF2, stepF.eq_def, updo.eq_def, hupo.eq_def, opSto1.eq_def, List.take_succ_cons, List.take_zero, idf_Wd', idf_numS, cells_numS, numS_fold, Sp.av, Sp.cells, Sg.av, Sg.cells, l3A, l3C]; rfl) fun fs60 hfs60 => ?_
          replace hfs60 : fs60.length = 1 := hfs60.trans rfl
          simp only [List.drop_succ_cons, List.drop_zero]
          refine DQ.runF (m := 12) (by simp only [List.length_append, List.length_cons, List.length_nil, hfs56, hfs57, hfs58, hfs59, hfs60]; omega) _ _ _ (by kernel_rfl) rfl (by simp (disch := first|omega|(simp only[ln];omega)) [runDf.eq_def, runF1, runF2, stepF.eq_def, updo.eq_def, hupo.eq_def, opSto1.eq_def, idf_Wd', idf_numS, cells_numS, numS_fold, Sp.av, Sp.cells, Sg.av, Sg.cells, l3A, l3C]; rfl) ?_
          refine hK55 _ ?_
          refine AWP.seqk fun K61 hK61 => ?_
          refine AWP.draw 12 Try.checked.mixed (by kernel_rfl) (by simp) ?_
          simp only [List.take_succ_cons, List.take_zero, List.drop_succ_cons, List.drop_zero]
          refine DP.runFk 3 (by simp (disch := first|omega|(simp only[ln];omega)) [runDf.eq_def, runF1, runF2, stepF.eq_def, updo.eq_def, hupo.eq_def, opSto1.eq_def, List.take_succ_cons, List.take_zero, idf_Wd', idf_numS, cells_numS, numS_fold, Sp.av, Sp.cells, Sg.av, Sg.cells, l3A, l3C]; rfl) fun fs62 hfs62 => ?_
          replace hfs62 : fs62.length = 3 := hfs62.trans rfl
          simp only [List.drop_succ_cons, List.drop_zero]
          refine DP.fcall (l1Int_fc u.a.y (by omega) (by omega)) rfl rfl rfl hb106 (by simp (disch := first|omega|(simp only[ln];omega)) [idf_Wd', idf_numS, cells_numS, numS_fold, Sp.av, Sp.cells, Sg.av, Sg.cells, l3A, l3C]) (by simp (disch := first|omega|(simp only[ln];omega))) (by simp) ?_
          simp only [updo]
          refine DP.runFk 1 (by simp (disch := first|omega|(simp only[ln];omega)) [runDf.eq_def, runF1, runF2, stepF.eq_def, updo.eq_def, hupo.eq_def, opSto1.eq_def, List.take_succ_cons, List.take_zero, idf_Wd', idf_numS, cells_numS, numS_fold, Sp.av, Sp.cells, Sg.av, Sg.cells, l3A, l3C]; rfl) fun fs63 hfs63 => ?_
          replace hfs63 : fs63.length = 1 := hfs63.trans rfl
          simp only [List.drop_succ_cons, List.drop_zero]
          refine DP.fcall (y1) rfl rfl rfl hb105 (by simp (disch := first|omega|(simp only[ln];omega)) [idf_Wd', idf_numS, cells_numS, numS_fold, Sp.av, Sp.cells, Sg.av, Sg.cells, l3A, l3C]) (by simp (disch := first|omega|(simp only[ln];omega))) (by simp) ?_
          simp only [updo]
          refine DP.runFk 1 (by simp (disch := first|omega|(simp only[ln];omega)) [runDf.eq_def, runF1, runF2, stepF.eq_def, updo.eq_def, hupo.eq_def, opSto1.eq_def, List.take_succ_cons, List.take_zero, idf_Wd', idf_numS, cells_numS, numS_fold, Sp.av, Sp.cells, Sg.av, Sg.cells, l3A, l3C]; rfl) fun fs64 hfs64 => ?_
          replace hfs64 : fs64.length = 1 := hfs64.trans rfl
          simp only [List.drop_succ_cons, List.drop_zero]
          refine DP.fcall (l1Int_fc (u.b.y - u.a.y) (by omega) (by omega)) rfl rfl rfl hb106 (by simp (disch := first|omega|(simp only[ln];omega)) [idf_Wd', idf_numS, cells_numS, numS_fold, Sp.av, Sp.cells, Sg.av, Sg.cells, l3A, l3C]) (by simp (disch := first|omega|(simp only[ln];omega))) (by simp) ?_
          simp only [updo]
          refine DP.runFk 1 (by simp (disch := first|omega|(simp only[ln];omega)) [runDf.eq_def, runF1, runF2, stepF.eq_def, updo.eq_def, hupo.eq_def, opSto1.eq_def, List.take_succ_cons, List.take_zero, idf_Wd', idf_numS, cells_numS, numS_fold, Sp.av, Sp.cells, Sg.av, Sg.cells, l3A, l3C]; rfl) fun fs65 hfs65 => ?_
          replace hfs65 : fs65.length = 1 := hfs65.trans rfl
          simp only [List.drop_succ_cons, List.drop_zero]
          refine DP.fcall (y2) rfl rfl rfl hb105 (by simp (disch := first|omega|(simp only[ln];omega)) [idf_Wd', idf_numS, cells_numS, numS_fold, Sp.av, Sp.cells, Sg.av, Sg.cells, l3A, l3C]) (by simp (disch := first|omega|(simp only[ln];omega))) (by simp) ?_
          simp only [updo]
          refine DP.fcall (y3) rfl rfl rfl hb104 (by simp (disch := first|omega|(simp only[ln];omega)) [idf_Wd', idf_numS, cells_numS, numS_fold, Sp.av, Sp.cells, Sg.av, Sg.cells, l3A, l3C]) (by simp (disch := first|omega|(simp only[ln];omega))) (by simp) ?_
          simp only [updo]
          refine DP.runFk 1 (by simp (disch := first|omega|(simp only[ln];omega)) [runDf.eq_def, runF1, runF2, stepF.eq_def, updo.eq_def, hupo.eq_def, opSto1.eq_def, List.take_succ_cons, List.take_zero, idf_Wd', idf_numS, cells_numS, numS_fold, Sp.av, Sp.cells, Sg.av, Sg.cells, l3A, l3C]; rfl) fun fs66 hfs66 => ?_
          replace hfs66 : fs66.length = 1 := hfs66.trans rfl
          simp only [List.drop_succ_cons, List.drop_zero]
          refine DQ.runF (m := 12) (by simp only [List.length_append, List.length_cons, List.length_nil, hfs62, hfs63, hfs64, hfs65, hfs66]; omega) _ _ _ (by kernel_rfl) rfl (by simp (disch := first|omega|(simp only[ln];omega)) [runDf.eq_def, runF1, runF2, stepF.eq_def, updo.eq_def, hupo.eq_def, opSto1.eq_def, idf_Wd', idf_numS, cells_numS, numS_fold, Sp.av, Sp.cells, Sg.av, Sg.cells, l3A, l3C]; rfl) ?_
          refine hK61 _ ?_
          refine AWP.seqk fun K67 hK67 => ?_
          refine AWP.region ?_
          refine AOPS.runk 3 (by simp (disch := first|omega|(simp only[ln];omega)) [List.take_succ_cons, List.take_zero, idf_Wd', idf_numS, cells_numS, numS_fold, Sp.av, Sp.cells, Sg.av, Sg.cells, l3A, l3C]; rfl) ?_
          simp only [List.drop_succ_cons, List.drop_zero]
          refine AOPS.fcall (l3) rfl rfl rfl hb103 (by simp (disch := first|omega|(simp only[ln];omega)) [idf_Wd', idf_numS, cells_numS, numS_fold, Sp.av, Sp.cells, Sg.av, Sg.cells, l3A, l3C]) (by simp (disch := first|omega|(simp only[ln];omega))) (by simp) ?_
          simp only [puts_some, updo]
          refine AOPS.all (by simp (disch := first|omega|(simp only[ln];omega)) [idf_Wd', idf_numS, cells_numS, numS_fold, Sp.av, Sp.cells, Sg.av, Sg.cells, l3A, l3C]; rfl) ?_
          refine hK67 _ ?_
          refine AWP.ret ?_
          exact hK _ _ _ _ trivial ((Fin.mk (by simp [aRes, aResL, aRes1, idf_Wd', idf_numS, cells_numS, numS_fold, Sp.av, Sp.cells, Sg.av, Sg.cells, l3A, l3C]; rfl)).cast (by rw [hl4]; rfl))
      · refine AWP.region (AOPS.all (by simp (disch := first|omega|(simp only[ln];omega)) [idf_Wd', idf_numS, cells_numS, numS_fold, Sp.av, Sp.cells, Sg.av, Sg.cells, l3A, l3C, q3]; rfl) ?_)
        refine hK47 _ ?_
        refine cond_ok _ (by simp (disch := first|omega|(simp only[ln];omega)); rfl) (fun h95 => ?_) (fun h95 => ?_)
        · try simp only [decide_eq_true_eq, decide_eq_false_iff_not] at h95
          have hw : noWay u v = true := by rw [hnw, q3]; rfl
          refine AWP.seqk fun K68 hK68 => ?_
          refine AWP.region (AOPS.all (by simp (disch := first|omega|(simp only[ln];omega)) [idf_Wd', idf_numS, cells_numS, numS_fold, Sp.av, Sp.cells, Sg.av, Sg.cells, l3A, l3C]; rfl) ?_)
          refine hK68 _ ?_
          refine AWP.ret ?_
          exact hK _ _ _ _ trivial ((Fin.mk (by simp [aRes, aResL, aRes1, idf_Wd', idf_numS, cells_numS, numS_fold, Sp.av, Sp.cells, Sg.av, Sg.cells, l3A, l3C]; rfl)).cast (by unfold l4V; rw [hA, hB, if_neg h0, if_pos hw]; try rfl))
        · simp at h95

end Go.Proofs.Ytmaebeknmiomnaa

/- Walks: rings, by the program. -/
namespace Go.Proofs.Ytmaebeknmiomnaa
open Go Go.RowKit
set_option linter.unusedSimpArgs false
set_option linter.unusedVariables false
set_option maxRecDepth 100000
attribute [local simp] List.getElem?_cons_zero List.getElem?_cons_succ List.getElem?_toArray runOps stepOp.eq_def agd.eq_def dstOk.eq_def opVal.eq_def opNew.eq_def opSto.eq_def ev.eq_def cv.eq_def puts_some puts_none upd_ap lst.eq_def aBin.eq_def aUn.eq_def aBi_str aBi_isl aBi_osl aBi_nsl aBi_max aBi_min aBi_max3 aConv.eq_def aLd.eq_def aLoad.eq_def aField.eq_def aFld.eq_def aIdx_isl aIdx_osl aSlc_isl aSlc_osl aSlc_str aSlc_nsl bnd.eq_def evs_nil evs_cons aBuild.eq_def aFill splice.eq_def cells_agg cells_int cells_bool cells_str cells_nil cells_nsl cells_isl cells_osl cells_ptr cells_ip cells_fn cells_Wd one_int one_bool one_str one_nil one_nsl one_isl one_osl one_ptr one_ip one_fn one_Wd aSets hupd_eq hupd_ne wrap_i64s wrap_u64s wrap_u32s wrap_u8s wd_getD wd_set wd_len wd_replicate wd_one wd_fold fz_osl hupd_same aSix.eq_def aEqS.eq_def aEqB_bool aEqB_nsl aEqB_nil
attribute [local simp] szT2 byT2 agT2 unT2 zoT2 szT3 byT3 agT3 unT3 zoT3 szT26 byT26 agT26 flT26 fdT26_0 fdT26_1 fdT26_2 fdT26_3 zoT26 szT28 byT28 agT28 flT28 fdT28_0 fdT28_1 fdT28_2 zoT28 szT41 byT41 agT41 elT41 unT41 zoT41 szT60 byT60 agT60 elT60 unT60 zoT60 szT62 byT62 agT62 flT62 fdT62_0 zoT62 szT67 byT67 agT67 flT67 fdT67_0 fdT67_1 zoT67 szT69 byT69 agT69 flT69 fdT69_0 fdT69_1 zoT69

theorem rg_at {r : List Sp} {i : Nat} (h : i < r.length) : (r.map Sp.cells)[i]? = some [.int .i64 (gs r i).x, .int .i64 (gs r i).y] := by rw [List.getElem?_map, gs_get h]; rfl
theorem sds_at {r : List Sp} {i : Nat} (h : i < r.length) : ((sds r).map Sg.cells)[i]? = some [.int .i64 (sd r i).a.x, .int .i64 (sd r i).a.y, .int .i64 (sd r i).b.x, .int .i64 (sd r i).b.y] := by rw [List.getElem?_map, sds_get h]; rfl
theorem sds_take {r : List Sp} {i : Nat} (h : i < r.length) : ((sds r).take (i + 1)).map Sg.cells = ((sds r).take i).map Sg.cells ++ [[.int .i64 (segO (gs r i) (nx1 r i)).a.x, .int .i64 (segO (gs r i) (nx1 r i)).a.y, .int .i64 (segO (gs r i) (nx1 r i)).b.x, .int .i64 (segO (gs r i) (nx1 r i)).b.y]] := by
  rw [List.take_add_one, sds_get h]; simp [Sg.cells, sd]
theorem ite_tmod {n k : Nat} (h : k < n) : Int.tmod ((k : Int) + 1) (n : Int) = (((k + 1) % n : Nat) : Int) := (Int.ofNat_tmod (k + 1) n).symm

theorem indexSp_fc (l : List Sp) (p : Sp) (hl : l.length ≤ 9223372036854775800) : FC Try.prog 200 [.isl (l.map Sp.cells), p.av] (.int .i64 (ixI l p : Int)) := by
  refine FC.body Try.func200 rfl (by simp [idfL, idf, idfLL_iff, Sp.av, Sp.cells, Sg.av, Sg.cells]) (by simp [idfL, idf, idfLL_iff, idf_Wd', Sp.av, Sp.cells, Sg.av, Sg.cells]) 19 rfl fun nx K hK => ?_
  refine AWP.seqk fun K1 hK1 => ?_
  refine AWP.region (AOPS.all (by simp (disch := first|omega|(simp only[ln];omega)) [idf_Wd', Sp.av, Sp.cells, Sg.av, Sg.cells]; rfl) ?_)
  refine hK1 _ ?_
  refine AWP.seqk fun K2 hK2 => ?_
  refine AWP.seqk fun K3 hK3 => ?_
  refine AWP.region (AOPS.all (by simp (disch := first|omega|(simp only[ln];omega)) [idf_Wd', Sp.av, Sp.cells, Sg.av, Sg.cells, List.length_map]; rfl) ?_)
  refine hK3 _ ?_
  refine AWP.block ?_
  
  refine AWP.loop (fun N s => ∃ i : Nat, N = l.length - i ∧ i ≤ l.length ∧ (ixI l p = ixGo (l.drop i) i p) ∧ s.env 0 = .isl (l.map Sp.cells) ∧ s.env 3 = .ptr nx 0 0 ∧ s.env 7 = .int .i64 (l.length : Int) ∧ s.env 8 = .int .i64 (i : Int) ∧ s.heap nx = some (2, [[.int .i64 p.x, .int .i64 p.y]]) ∧ nx < s.nx ∧ s.nt = 19) (l.length) (⟨0, by omega, by omega, rfl, by simp (disch := omega), by simp (disch := omega), by simp (disch := omega), by simp (disch := omega), by simp (disch := omega), by first | omega | (simp; done) | (simp; omega), rfl⟩) ?_
  rintro N ⟨e, H, mm, nt⟩ ⟨i, rfl, hi, hv, g0, g3, g7, g8, Hp, xp, rfl⟩
  simp only [] at g0 g3 g7 g8 Hp xp
  refine AWP.seqk fun K4 hK4 => ?_
  refine AWP.region (AOPS.all (by simp (disch := first|omega|(simp only[ln];omega)) [idf_Wd', Sp.av, Sp.cells, Sg.av, Sg.cells, g7, g8]; rfl) ?_)
  refine hK4 _ ?_
  refine AWP.seqk fun K5 hK5 => ?_
  refine cond_ok _ (by simp (disch := first|omega|(simp only[ln];omega)); rfl) (fun h9 => ?_) (fun h9 => ?_)
  · try simp only [decide_eq_true_eq, decide_eq_false_iff_not] at h9
    have hi' : i < l.length := by omega
    have hat := rg_at hi'
    rw [drop_gs hi', ixGo] at hv
    refine AWP.skip ?_
    refine hK5 _ ?_
    refine AWP.seqk fun K6 hK6 => ?_
    refine AWP.block ?_
    refine AWP.seqk fun K7 hK7 => ?_
    refine AWP.region (AOPS.all (by simp (disch := first|omega|(simp only[ln];omega)) [idf_Wd', Sp.av, Sp.cells, Sg.av, Sg.cells, g8]; rfl) ?_)
    refine hK7 _ ?_
    refine AWP.seqk fun K8 hK8 => ?_
    refine AWP.drawF 6 Try.checked.mixed (by kernel_rfl) (by simp (disch := first|omega|(simp only[ln];omega)) [runDf.eq_def, runF1, runF2, stepF.eq_def, updo.eq_def, hupo.eq_def, opSto1.eq_def, if_pos, idf_Wd', Sp.av, Sp.cells, Sg.av, Sg.cells, g0, g3, Hp, g8, hat, eqW2, List.length_map]; rfl) ?_
    refine hK8 _ ?_
    refine cond_ok (decide (p = gs l i)) (by simp (disch := first|omega|(simp only[ln];omega))) (fun h16 => ?_) (fun h16 => ?_)
    · try simp only [decide_eq_true_eq, decide_eq_false_iff_not] at h16
      rw [if_pos h16.symm] at hv
      refine AWP.seqk fun K9 hK9 => ?_
      refine AWP.region (AOPS.all (by simp (disch := first|omega|(simp only[ln];omega)) [idf_Wd', Sp.av, Sp.cells, Sg.av, Sg.cells]; rfl) ?_)
      refine hK9 _ ?_
      refine AWP.ret ?_
      exact hK _ _ _ _ trivial ((Fin.mk (by simp [aRes, aResL, aRes1, idf_Wd', Sp.av, Sp.cells, Sg.av, Sg.cells]; try rfl)).cast (by rw [hv]))
    · try simp only [decide_eq_true_eq, decide_eq_false_iff_not] at h16
      rw [if_neg (Ne.symm h16)] at hv
      refine AWP.skip ?_
      refine hK6 _ ?_
      refine AWP.region (AOPS.all (by simp (disch := first|omega|(simp only[ln];omega)) [idf_Wd', Sp.av, Sp.cells, Sg.av, Sg.cells, g8]; rfl) ?_)
      refine ⟨l.length - (i + 1), by omega, i + 1, rfl, by omega, hv, by simp (disch := omega) [g0, g3, g7, g8, Hp], by simp (disch := omega) [g0, g3, g7, g8, Hp], by simp (disch := omega) [g0, g3, g7, g8, Hp], by simp (disch := omega) [g0, g3, g7, g8, Hp], by simp (disch := omega) [g0, g3, g7, g8, Hp], by first | omega | (simp; done) | (simp; omega), rfl⟩
  · try simp only [decide_eq_true_eq, decide_eq_false_iff_not] at h9
    have hin : i = l.length := by omega
    rw [hin, List.drop_length, ixGo] at hv
    refine AWP.exit ?_
    refine hK2 _ ?_
    refine AWP.seqk fun K10 hK10 => ?_
    refine AWP.region (AOPS.all (by simp (disch := first|omega|(simp only[ln];omega)) [idf_Wd', Sp.av, Sp.cells, Sg.av, Sg.cells]; rfl) ?_)
    refine hK10 _ ?_
    refine AWP.ret ?_
    exact hK _ _ _ _ trivial ((Fin.mk (by simp [aRes, aResL, aRes1, idf_Wd', Sp.av, Sp.cells, Sg.av, Sg.cells]; try rfl)).cast (by rw [hv]))

theorem containsSp_fc (l : List Sp) (p : Sp) (hl : l.length ≤ 9223372036854775800) : FC Try.prog 117 [.isl (l.map Sp.cells), p.av] (.bool (decide (p ∈ l))) := by
  refine FC.body Try.func117 rfl (by simp [idfL, idf, idfLL_iff, Sp.av, Sp.cells, Sg.av, Sg.cells]) (by simp [idfL, idf, idfLL_iff, idf_Wd', Sp.av, Sp.cells, Sg.av, Sg.cells]) 9 rfl fun nx K hK => ?_
  refine AWP.seqk fun K1 hK1 => ?_
  refine AWP.region (AOPS.all (by simp (disch := first|omega|(simp only[ln];omega)) [idf_Wd', Sp.av, Sp.cells, Sg.av, Sg.cells]; rfl) ?_)
  refine hK1 _ ?_
  refine AWP.seqk fun K2 hK2 => ?_
  refine AWP.region ?_
  refine AOPS.runk 2 (by simp (disch := first|omega|(simp only[ln];omega)) [List.take_succ_cons, List.take_zero, idf_Wd', Sp.av, Sp.cells, Sg.av, Sg.cells]; rfl) ?_
  simp only [List.drop_succ_cons, List.drop_zero]
  refine AOPS.fcall (indexSp_fc l p hl) rfl rfl rfl hb200 (by simp (disch := first|omega|(simp only[ln];omega)) [idf_Wd', Sp.av, Sp.cells, Sg.av, Sg.cells]) (by simp (disch := first|omega|(simp only[ln];omega))) (by simp) ?_
  simp only [puts_some, updo]
  refine AOPS.all (by simp (disch := first|omega|(simp only[ln];omega)) [idf_Wd', Sp.av, Sp.cells, Sg.av, Sg.cells]; rfl) ?_
  refine hK2 _ ?_
  refine AWP.ret ?_
  exact hK _ _ _ _ trivial ((Fin.mk (by simp [aRes, aResL, aRes1, idf_Wd', Sp.av, Sp.cells, Sg.av, Sg.cells]; try rfl)).cast (by rw [← ixI_mem]))

theorem segOf_fc (a b : Sp) : FC Try.prog 201 [a.av, b.av] (.agg [.int .i64 (segO a b).a.x, .int .i64 (segO a b).a.y, .int .i64 (segO a b).b.x, .int .i64 (segO a b).b.y]) := by
  refine FC.body Try.func201 rfl (by simp [idfL, idf, idfLL_iff, Sp.av, Sp.cells, Sg.av, Sg.cells]) (by simp [idfL, idf, idfLL_iff, idf_Wd', Sp.av, Sp.cells, Sg.av, Sg.cells]) 15 rfl fun nx K hK => ?_
  refine AWP.seqk fun K1 hK1 => ?_
  refine AWP.region (AOPS.all (by simp (disch := first|omega|(simp only[ln];omega)) [idf_Wd', Sp.av, Sp.cells, Sg.av, Sg.cells]; rfl) ?_)
  refine hK1 _ ?_
  refine AWP.seqk fun K2 hK2 => ?_
  refine AWP.seqk fun K3 hK3 => ?_
  refine AWP.region ?_
  refine AOPS.runk 2 (by simp (disch := first|omega|(simp only[ln];omega)) [List.take_succ_cons, List.take_zero, idf_Wd', Sp.av, Sp.cells, Sg.av, Sg.cells]; rfl) ?_
  simp only [List.drop_succ_cons, List.drop_zero]
  refine AOPS.fcall (cmpSpots_fc a b) rfl rfl rfl hb134 (by simp (disch := first|omega|(simp only[ln];omega)) [idf_Wd', Sp.av, Sp.cells, Sg.av, Sg.cells]) (by simp (disch := first|omega|(simp only[ln];omega))) (by simp) ?_
  simp only [puts_some, updo]
  refine AOPS.all (by simp (disch := first|omega|(simp only[ln];omega)) [idf_Wd', Sp.av, Sp.cells, Sg.av, Sg.cells]; rfl) ?_
  refine hK3 _ ?_
  refine cond_ok (lsS b a) (by simp (disch := first|omega|(simp only[ln];omega)) [lsS_dec2]) (fun h8 => ?_) (fun h8 => ?_)
  · try simp only [decide_eq_true_eq, decide_eq_false_iff_not] at h8
    refine AWP.seqk fun K4 hK4 => ?_
    refine AWP.region (AOPS.all (by simp (disch := first|omega|(simp only[ln];omega)) [idf_Wd', Sp.av, Sp.cells, Sg.av, Sg.cells]; rfl) ?_)
    refine hK4 _ ?_
    refine AWP.ret ?_
    exact hK _ _ _ _ trivial ((Fin.mk (by simp (disch := omega) [aRes, aResL, aRes1, idf_Wd', Sp.av, Sp.cells, Sg.av, Sg.cells]; rfl)).cast (by unfold segO; rw [if_pos h8]))
  · try simp only [decide_eq_true_eq, decide_eq_false_iff_not] at h8
    refine AWP.skip ?_
    refine hK2 _ ?_
    refine AWP.seqk fun K5 hK5 => ?_
    refine AWP.region (AOPS.all (by simp (disch := first|omega|(simp only[ln];omega)) [idf_Wd', Sp.av, Sp.cells, Sg.av, Sg.cells]; rfl) ?_)
    refine hK5 _ ?_
    refine AWP.ret ?_
    exact hK _ _ _ _ trivial ((Fin.mk (by simp (disch := omega) [aRes, aResL, aRes1, idf_Wd', Sp.av, Sp.cells, Sg.av, Sg.cells]; rfl)).cast (by unfold segO; rw [h8]; rfl))

set_option maxHeartbeats 1000000 in
theorem sides_fc (r : List Sp) (hl : r.length ≤ 1099511627776) : FC Try.prog 118 [.agg [.isl (r.map Sp.cells)]] (.isl ((sds r).map Sg.cells)) := by
  refine FC.body Try.func118 rfl (by simp [idfL, idf, idfLL_iff, Sp.av, Sp.cells, Sg.av, Sg.cells]) (by simp [idf, idfLL_iff, Sg.cells, idfL]) 32 rfl fun nx K hK => ?_
  refine AWP.seqk fun K1 hK1 => ?_
  refine AWP.region (AOPS.all (by simp (disch := first|omega|(simp only[ln];omega)) [idf_Wd', Sp.av, Sp.cells, Sg.av, Sg.cells]; rfl) ?_)
  refine hK1 _ ?_
  refine AWP.seqk fun K2 hK2 => ?_
  refine AWP.region (AOPS.all (by simp (disch := first|omega|(simp only[ln];omega)) [idf_Wd', Sp.av, Sp.cells, Sg.av, Sg.cells]; rfl) ?_)
  refine hK2 _ ?_
  refine AWP.seqk fun K3 hK3 => ?_
  refine AWP.seqk fun K4 hK4 => ?_
  refine AWP.region (AOPS.all (by simp (disch := first|omega|(simp only[ln];omega)) [idf_Wd', Sp.av, Sp.cells, Sg.av, Sg.cells, List.length_map]; rfl) ?_)
  refine hK4 _ ?_
  refine AWP.block ?_
  
  refine AWP.loop (fun N s => ∃ i : Nat, ∃ id : Nat, N = r.length - i ∧ i ≤ r.length ∧ (nx < id) ∧ s.env 1 = .ptr nx 0 0 ∧ s.env 3 = .osl id 0 i ∧ s.env 8 = .isl (r.map Sp.cells) ∧ s.env 9 = .int .i64 (r.length : Int) ∧ s.env 10 = .int .i64 (i : Int) ∧ s.heap nx = some (1, [[.isl (r.map Sp.cells)]]) ∧ nx < s.nx ∧ s.heap id = some (4, ((sds r).take i).map Sg.cells) ∧ id < s.nx ∧ s.nt = 32) (r.length) (⟨0, nx + 1, by omega, by omega, by omega, by simp (disch := omega), by simp (disch := omega), by simp (disch := omega), by simp (disch := omega), by simp (disch := omega), by simp (disch := omega), by first | omega | (simp; done) | (simp; omega), by simp (disch := omega), by first | omega | (simp; done) | (simp; omega), rfl⟩) ?_
  rintro N ⟨e, H, mm, nt⟩ ⟨i, id, rfl, hi, hid, g1, g3, g8, g9, g10, Hr, xr, Ho, xo, rfl⟩
  simp only [] at g1 g3 g8 g9 g10 Hr xr Ho xo
  refine AWP.seqk fun K5 hK5 => ?_
  refine AWP.region (AOPS.all (by simp (disch := first|omega|(simp only[ln];omega)) [idf_Wd', Sp.av, Sp.cells, Sg.av, Sg.cells, g9, g10]; rfl) ?_)
  refine hK5 _ ?_
  refine AWP.seqk fun K6 hK6 => ?_
  refine cond_ok _ (by simp (disch := first|omega|(simp only[ln];omega)); rfl) (fun h11 => ?_) (fun h11 => ?_)
  · try simp only [decide_eq_true_eq, decide_eq_false_iff_not] at h11
    have hi' : i < r.length := by omega
    have hat := rg_at hi'
    obtain ⟨j, hj⟩ : ∃ j : Nat, j = (i + 1) % r.length := ⟨_, rfl⟩
    have hjl : j < r.length := by rw [hj]; exact nx1_lt hi'
    have htm : Int.tmod ((i : Int) + 1) (r.length : Int) = (j : Int) := by rw [hj]; exact ite_tmod hi'
    have hat2 := rg_at hjl
    have hnj : gs r j = nx1 r i := by rw [hj]; rfl
    have hst := sds_take hi'
    have hc1 : i ≤ min i (sds r).length := by rw [sds_len]; omega
    have hc2 : (i + 1) * 32 ≤ 140737488355328 := by omega
    have hc3 : i ≤ 9223372036854775806 := by omega
    have hne : ¬ r = [] := by intro h; rw [h] at hi'; simp at hi'
    have htk : ((sds r).take i).length = i := by rw [List.length_take, sds_len]; omega
    refine AWP.skip ?_
    refine hK6 _ ?_
    refine AWP.seqk fun K7 hK7 => ?_
    refine AWP.block ?_
    refine AWP.seqk fun K8 hK8 => ?_
    refine AWP.region (AOPS.all (by simp (disch := first|omega|(simp only[ln];omega)) [if_pos, idf_Wd', Sp.av, Sp.cells, Sg.av, Sg.cells, g8, g10, hat, List.length_map]; rfl) ?_)
    refine hK8 _ ?_
    refine AWP.drawT 14 Try.checked.mixed (by kernel_rfl) (by kernel_rfl) ?_
    simp only [List.take_succ_cons, List.take_zero, List.drop_succ_cons, List.drop_zero]
    refine DP.runFk 12 (by simp (disch := first|omega|(simp only[ln];omega)) [runDf.eq_def, runF1, runF2, stepF.eq_def, updo.eq_def, hupo.eq_def, opSto1.eq_def, List.take_succ_cons, List.take_zero, if_pos, idf_Wd', Sp.av, Sp.cells, Sg.av, Sg.cells, g1, g3, Hr, Ho, hat, hat2, htm, hne, htk, hc1, hc2, hc3, List.length_map]; rfl) fun fs9 hfs9 => ?_
    replace hfs9 : fs9.length = 12 := hfs9.trans rfl
    simp only [List.drop_succ_cons, List.drop_zero]
    refine DP.fcall (segOf_fc (gs r i) (gs r j)) rfl rfl rfl hb201 (by simp (disch := first|omega|(simp only[ln];omega)) [idf_Wd', g1, g3, Hr, Ho, hat, hat2, htm, hne, htk, hc1, hc2, hc3, List.length_map, Sp.av, Sp.cells, Sg.av, Sg.cells]) (by simp (disch := first|omega|(simp only[ln];omega)) [g1, g3, Hr, Ho, hat, hat2, htm, hne, htk, hc1, hc2, hc3, List.length_map]) (by simp) ?_
    simp only [updo]
    refine DP.runFk 1 (by simp (disch := first|omega|(simp only[ln];omega)) [runDf.eq_def, runF1, runF2, stepF.eq_def, updo.eq_def, hupo.eq_def, opSto1.eq_def, List.take_succ_cons, List.take_zero, if_pos, idf_Wd', Sp.av, Sp.cells, Sg.av, Sg.cells, g1, g3, Hr, Ho, hat, hat2, htm, hne, htk, hc1, hc2, hc3, List.length_map]; rfl) fun fs10 hfs10 => ?_
    replace hfs10 : fs10.length = 1 := hfs10.trans rfl
    simp only [List.drop_succ_cons, List.drop_zero]
    simp only [DP]
    refine AOPS.opapp (by simp (disch := first|omega|(simp only[ln];omega)) [opApp.eq_def, aSrc_isl, aSrc_osl, aSrc_nsl, aSrc_int, wd_app, wd_app2, if_pos, wd_append, wd_take, wd_drop, List.nil_append, idf_Wd', Sp.av, Sp.cells, Sg.av, Sg.cells, g1, g3, Hr, Ho, hat, hat2, htm, hne, htk, hc1, hc2, hc3, List.length_map, src_Wd' (P := Try.prog) elT41]; first | rfl | exact ⟨rfl, rfl⟩ | exact ⟨rfl, rfl, rfl⟩) (by simp) (by simp) ?_
    simp only [puts_some, hdrop]
    refine AOPS.all (by simp (disch := first|omega|(simp only[ln];omega)) [if_pos, idf_Wd', Sp.av, Sp.cells, Sg.av, Sg.cells, g1, g3, Hr, Ho, hat, hat2, htm, hne, htk, hc1, hc2, hc3, List.length_map]; rfl) ?_
    refine hK7 _ ?_
    refine AWP.region (AOPS.all (by simp (disch := first|omega|(simp only[ln];omega)) [idf_Wd', Sp.av, Sp.cells, Sg.av, Sg.cells, g10]; rfl) ?_)
    refine ⟨r.length - (i + 1), by omega, i + 1, mm + 1 + 14, rfl, by omega, by omega, by simp (disch := omega) [g1, g3, g8, g9, g10, Hr, Ho, hst, hnj, List.take_take], by simp (disch := omega) [g1, g3, g8, g9, g10, Hr, Ho, hst, hnj, List.take_take], by simp (disch := omega) [g1, g3, g8, g9, g10, Hr, Ho, hst, hnj, List.take_take], by simp (disch := omega) [g1, g3, g8, g9, g10, Hr, Ho, hst, hnj, List.take_take], by simp (disch := omega) [g1, g3, g8, g9, g10, Hr, Ho, hst, hnj, List.take_take], by simp (disch := omega) [g1, g3, g8, g9, g10, Hr, Ho, hst, hnj, List.take_take], by first | omega | (simp; done) | (simp; omega), by simp (disch := omega) [g1, g3, g8, g9, g10, Hr, Ho, hst, hnj, List.take_take], by first | omega | (simp; done) | (simp; omega), rfl⟩
  · try simp only [decide_eq_true_eq, decide_eq_false_iff_not] at h11
    have hin : i = r.length := by omega
    have htl : (sds r).take i = sds r := by rw [hin, ← sds_len r, List.take_length]
    rw [htl] at Ho
    subst hin
    refine AWP.exit ?_
    refine hK3 _ ?_
    refine AWP.seqk fun K11 hK11 => ?_
    refine AWP.region (AOPS.all (by simp (disch := first|omega|(simp only[ln];omega)) [idf_Wd', Sp.av, Sp.cells, Sg.av, Sg.cells, g3]; rfl) ?_)
    refine hK11 _ ?_
    refine AWP.ret ?_
    exact hK _ _ _ _ trivial (((Fin.mk (r := .osl id 0 r.length) (by simp [aRes, aResL, aRes1, idf_Wd', Sp.av, Sp.cells, Sg.av, Sg.cells])).freeze (id := id) (z := 4) (es := (sds r).map Sg.cells) (by simp [Ho])).cast (by rw [fz_fill _ _ (sds_len r).symm]))

set_option maxHeartbeats 4000000 in
theorem ringFaultI_fc (r : List Sp) (hl : r.length ≤ 1099511627776) : FC Try.prog 38 [.agg [.isl (r.map Sp.cells)]] (.int .i64 (rgF r : Int)) := by
  refine FC.body Try.func38 rfl (by simp [idfL, idf, idfLL_iff, Sp.av, Sp.cells, Sg.av, Sg.cells]) (by simp [idfL, idf, idfLL_iff, idf_Wd', Sp.av, Sp.cells, Sg.av, Sg.cells]) 103 rfl fun nx K hK => ?_
  refine AWP.seqk fun K1 hK1 => ?_
  refine AWP.region (AOPS.all (by simp (disch := first|omega|(simp only[ln];omega)) [idf_Wd', Sp.av, Sp.cells, Sg.av, Sg.cells]; rfl) ?_)
  refine hK1 _ ?_
  refine AWP.seqk fun K2 hK2 => ?_
  refine AWP.region (AOPS.all (by simp (disch := first|omega|(simp only[ln];omega)) [idf_Wd', Sp.av, Sp.cells, Sg.av, Sg.cells, List.length_map]; rfl) ?_)
  refine hK2 _ ?_
  refine AWP.seqk fun K3 hK3 => ?_
  refine AWP.block ?_
  refine AWP.seqk fun K4 hK4 => ?_
  refine AWP.region (AOPS.all (by simp (disch := first|omega|(simp only[ln];omega)) [idf_Wd', Sp.av, Sp.cells, Sg.av, Sg.cells]; rfl) ?_)
  refine hK4 _ ?_
  refine cond_ok (decide ((r.length : Int) < 3)) (by simp (disch := first|omega|(simp only[ln];omega))) (fun h20 => ?_) (fun h20 => ?_)
  · try simp only [decide_eq_true_eq, decide_eq_false_iff_not] at h20
    refine AWP.seqk fun K5 hK5 => ?_
    refine AWP.region (AOPS.all (by simp (disch := first|omega|(simp only[ln];omega)) [idf_Wd', Sp.av, Sp.cells, Sg.av, Sg.cells]; rfl) ?_)
    refine hK5 _ ?_
    refine AWP.ret ?_
    exact hK _ _ _ _ trivial ((Fin.mk (by simp [aRes, aResL, aRes1, idf_Wd', Sp.av, Sp.cells, Sg.av, Sg.cells]; try rfl)).cast (by rw [rgF_few (by omega)]))
  · try simp only [decide_eq_true_eq, decide_eq_false_iff_not] at h20
    refine AWP.seqk fun K6 hK6 => ?_
    refine AWP.region (AOPS.all (by simp (disch := first|omega|(simp only[ln];omega)) [idf_Wd', Sp.av, Sp.cells, Sg.av, Sg.cells]; rfl) ?_)
    refine hK6 _ ?_
    refine cond_ok (decide (12 < (r.length : Int))) (by simp (disch := first|omega|(simp only[ln];omega))) (fun h23 => ?_) (fun h23 => ?_)
    · try simp only [decide_eq_true_eq, decide_eq_false_iff_not] at h23
      refine AWP.seqk fun K7 hK7 => ?_
      refine AWP.region (AOPS.all (by simp (disch := first|omega|(simp only[ln];omega)) [idf_Wd', Sp.av, Sp.cells, Sg.av, Sg.cells]; rfl) ?_)
      refine hK7 _ ?_
      refine AWP.ret ?_
      exact hK _ _ _ _ trivial ((Fin.mk (by simp [aRes, aResL, aRes1, idf_Wd', Sp.av, Sp.cells, Sg.av, Sg.cells]; try rfl)).cast (by rw [rgF_many (by omega)]))
    · try simp only [decide_eq_true_eq, decide_eq_false_iff_not] at h23
      have h3 : ¬ r.length < 3 := by omega
      have h12 : ¬ 12 < r.length := by omega
      refine AWP.skip ?_
      refine hK3 _ ?_
      refine AWP.seqk fun K8 hK8 => ?_
      refine AWP.seqk fun K9 hK9 => ?_
      refine AWP.region (AOPS.all (by simp (disch := first|omega|(simp only[ln];omega)) [idf_Wd', Sp.av, Sp.cells, Sg.av, Sg.cells, List.length_map]; rfl) ?_)
      refine hK9 _ ?_
      refine AWP.block ?_
      
      refine AWP.loop (fun N s => ∃ i : Nat, N = r.length - i ∧ i ≤ r.length ∧ (∀ j, j < i → (gs r j).good = true) ∧ s.env 1 = .ptr nx 0 0 ∧ s.env 3 = .int .i64 (r.length : Int) ∧ s.env 27 = .isl (r.map Sp.cells) ∧ s.env 28 = .int .i64 (r.length : Int) ∧ s.env 29 = .int .i64 (i : Int) ∧ s.heap nx = some (1, [[.isl (r.map Sp.cells)]]) ∧ nx < s.nx ∧ s.nt = 103) (r.length) (⟨0, by omega, by omega, fun j h => by omega, by simp (disch := omega), by simp (disch := omega), by simp (disch := omega), by simp (disch := omega), by simp (disch := omega), by simp (disch := omega), by first | omega | (simp; done) | (simp; omega), rfl⟩) ?_
      rintro N ⟨e, H, mm, nt⟩ ⟨i, rfl, hi, hgd, g1, g3, g27, g28, g29, Hr, xr, rfl⟩
      simp only [] at g1 g3 g27 g28 g29 Hr xr
      refine AWP.seqk fun K10 hK10 => ?_
      refine AWP.region (AOPS.all (by simp (disch := first|omega|(simp only[ln];omega)) [idf_Wd', Sp.av, Sp.cells, Sg.av, Sg.cells, g28, g29]; rfl) ?_)
      refine hK10 _ ?_
      refine AWP.seqk fun K11 hK11 => ?_
      refine cond_ok _ (by simp (disch := first|omega|(simp only[ln];omega)); rfl) (fun h30 => ?_) (fun h30 => ?_)
      · try simp only [decide_eq_true_eq, decide_eq_false_iff_not] at h30
        have hi' : i < r.length := by omega
        have hat := rg_at hi'
        refine AWP.skip ?_
        refine hK11 _ ?_
        refine AWP.seqk fun K12 hK12 => ?_
        refine AWP.block ?_
        refine AWP.seqk fun K13 hK13 => ?_
        refine AWP.region (AOPS.all (by simp (disch := first|omega|(simp only[ln];omega)) [if_pos, idf_Wd', Sp.av, Sp.cells, Sg.av, Sg.cells, g27, g29, hat, List.length_map]; rfl) ?_)
        refine hK13 _ ?_
        refine AWP.seqk fun K14 hK14 => ?_
        refine AWP.region ?_
        refine AOPS.runk 1 (by simp (disch := first|omega|(simp only[ln];omega)) [List.take_succ_cons, List.take_zero, idf_Wd', Sp.av, Sp.cells, Sg.av, Sg.cells]; rfl) ?_
        simp only [List.drop_succ_cons, List.drop_zero]
        refine AOPS.fcall (spotOkI_fc (gs r i)) rfl rfl rfl hb49 (by simp (disch := first|omega|(simp only[ln];omega)) [idf_Wd', Sp.av, Sp.cells, Sg.av, Sg.cells]) (by simp (disch := first|omega|(simp only[ln];omega))) (by simp) ?_
        simp only [puts_some, updo]
        refine AOPS.all (by simp (disch := first|omega|(simp only[ln];omega)) [idf_Wd', Sp.av, Sp.cells, Sg.av, Sg.cells]; rfl) ?_
        refine hK14 _ ?_
        refine cond_ok (!(gs r i).good) (by simp (disch := first|omega|(simp only[ln];omega))) (fun h35 => ?_) (fun h35 => ?_)
        · try simp only [decide_eq_true_eq, decide_eq_false_iff_not] at h35
          have hb : ¬ (gs r i).good = true := by simpa using h35
          refine AWP.seqk fun K15 hK15 => ?_
          refine AWP.region (AOPS.all (by simp (disch := first|omega|(simp only[ln];omega)) [idf_Wd', Sp.av, Sp.cells, Sg.av, Sg.cells]; rfl) ?_)
          refine hK15 _ ?_
          refine AWP.ret ?_
          exact hK _ _ _ _ trivial ((Fin.mk (by simp [aRes, aResL, aRes1, idf_Wd', Sp.av, Sp.cells, Sg.av, Sg.cells]; try rfl)).cast (by rw [rgF_coord h3 h12 (gs_mem hi') hb]))
        · try simp only [decide_eq_true_eq, decide_eq_false_iff_not] at h35
          have hg1 : (gs r i).good = true := by simpa using h35
          refine AWP.skip ?_
          refine hK12 _ ?_
          refine AWP.region (AOPS.all (by simp (disch := first|omega|(simp only[ln];omega)) [idf_Wd', Sp.av, Sp.cells, Sg.av, Sg.cells, g29]; rfl) ?_)
          refine ⟨r.length - (i + 1), by omega, i + 1, rfl, by omega, fun j h => by rcases Nat.lt_succ_iff_lt_or_eq.1 h with h | h; exact hgd j h; rw [h]; exact hg1, by simp (disch := omega) [g1, g3, g27, g28, g29, Hr], by simp (disch := omega) [g1, g3, g27, g28, g29, Hr], by simp (disch := omega) [g1, g3, g27, g28, g29, Hr], by simp (disch := omega) [g1, g3, g27, g28, g29, Hr], by simp (disch := omega) [g1, g3, g27, g28, g29, Hr], by simp (disch := omega) [g1, g3, g27, g28, g29, Hr], by first | omega | (simp; done) | (simp; omega), rfl⟩
      · try simp only [decide_eq_true_eq, decide_eq_false_iff_not] at h30
        have hG : spsGood r := spsGood_of (by omega) hgd
        clear hgd
        refine AWP.exit ?_
        refine hK8 _ ?_
        refine AWP.seqk fun K16 hK16 => ?_
        refine AWP.seqk fun K17 hK17 => ?_
        refine AWP.region (AOPS.all (by simp (disch := first|omega|(simp only[ln];omega)) [idf_Wd', Sp.av, Sp.cells, Sg.av, Sg.cells, g1, Hr, List.length_map]; rfl) ?_)
        refine hK17 _ ?_
        refine AWP.block ?_
        
        refine AWP.loop (fun N s => ∃ i : Nat, N = r.length - i ∧ i ≤ r.length ∧ (∀ j k, k < j → j < i → gs r j ≠ gs r k) ∧ s.env 1 = .ptr nx 0 0 ∧ s.env 3 = .int .i64 (r.length : Int) ∧ s.env 38 = .isl (r.map Sp.cells) ∧ s.env 39 = .int .i64 (r.length : Int) ∧ s.env 40 = .int .i64 (i : Int) ∧ s.heap nx = some (1, [[.isl (r.map Sp.cells)]]) ∧ nx < s.nx ∧ s.nt = 103) (r.length) (⟨0, by omega, by omega, fun j k h h' => by omega, by simp (disch := omega) [g1, g3, Hr], by simp (disch := omega) [g1, g3, Hr], by simp (disch := omega) [g1, g3, Hr], by simp (disch := omega) [g1, g3, Hr], by simp (disch := omega) [g1, g3, Hr], by simp (disch := omega) [g1, g3, Hr], by first | omega | (simp; done) | (simp; omega), rfl⟩) ?_
        clear g1 g3 g27 g28 g29 Hr
        rintro N ⟨e, H, mm, nt⟩ ⟨i, rfl, hi, hnd, g1, g3, g38, g39, g40, Hr, xr, rfl⟩
        simp only [] at g1 g3 g38 g39 g40 Hr xr
        refine AWP.seqk fun K18 hK18 => ?_
        refine AWP.region (AOPS.all (by simp (disch := first|omega|(simp only[ln];omega)) [idf_Wd', Sp.av, Sp.cells, Sg.av, Sg.cells, g39, g40]; rfl) ?_)
        refine hK18 _ ?_
        refine AWP.seqk fun K19 hK19 => ?_
        refine cond_ok _ (by simp (disch := first|omega|(simp only[ln];omega)); rfl) (fun h41 => ?_) (fun h41 => ?_)
        · try simp only [decide_eq_true_eq, decide_eq_false_iff_not] at h41
          have hi' : i < r.length := by omega
          have hat := rg_at hi'
          refine AWP.skip ?_
          refine hK19 _ ?_
          refine AWP.seqk fun K20 hK20 => ?_
          refine AWP.block ?_
          refine AWP.seqk fun K21 hK21 => ?_
          refine AWP.region (AOPS.all (by simp (disch := first|omega|(simp only[ln];omega)) [if_pos, idf_Wd', Sp.av, Sp.cells, Sg.av, Sg.cells, g38, g40, hat, List.length_map]; rfl) ?_)
          refine hK21 _ ?_
          refine AWP.seqk fun K22 hK22 => ?_
          refine AWP.draw 6 Try.checked.mixed (by kernel_rfl) (by simp) ?_
          simp only [List.take_succ_cons, List.take_zero, List.drop_succ_cons, List.drop_zero]
          refine DP.runFk 5 (by simp (disch := first|omega|(simp only[ln];omega)) [runDf.eq_def, runF1, runF2, stepF.eq_def, updo.eq_def, hupo.eq_def, opSto1.eq_def, List.take_succ_cons, List.take_zero, if_pos, idf_Wd', Sp.av, Sp.cells, Sg.av, Sg.cells, g1, Hr, hi, List.map_take, List.length_map]; rfl) fun fs23 hfs23 => ?_
          replace hfs23 : fs23.length = 5 := hfs23.trans rfl
          simp only [List.drop_succ_cons, List.drop_zero]
          refine DP.fcall (containsSp_fc (r.take i) (gs r i) (by rw [List.length_take]; omega)) rfl rfl rfl hb117 (by simp (disch := first|omega|(simp only[ln];omega)) [idf_Wd', g1, Hr, hi, List.map_take, List.length_map, Sp.av, Sp.cells, Sg.av, Sg.cells]) (by simp (disch := first|omega|(simp only[ln];omega)) [g1, Hr, hi, List.map_take, List.length_map]) (by simp) ?_
          simp only [updo]
          refine DQ.runF (m := 6) (by simp only [List.length_append, List.length_cons, List.length_nil, hfs23]; omega) _ _ _ (by kernel_rfl) rfl (by simp (disch := first|omega|(simp only[ln];omega)) [runDf.eq_def, runF1, runF2, stepF.eq_def, updo.eq_def, hupo.eq_def, opSto1.eq_def, if_pos, idf_Wd', Sp.av, Sp.cells, Sg.av, Sg.cells, g1, Hr, hi, List.map_take, List.length_map]; rfl) ?_
          refine hK22 _ ?_
          refine cond_ok (decide (gs r i ∈ r.take i)) (by simp (disch := first|omega|(simp only[ln];omega))) (fun h50 => ?_) (fun h50 => ?_)
          · try simp only [decide_eq_true_eq, decide_eq_false_iff_not] at h50
            obtain ⟨k, hk, he⟩ := (take_gs hi).1 h50
            refine AWP.seqk fun K24 hK24 => ?_
            refine AWP.region (AOPS.all (by simp (disch := first|omega|(simp only[ln];omega)) [idf_Wd', Sp.av, Sp.cells, Sg.av, Sg.cells]; rfl) ?_)
            refine hK24 _ ?_
            refine AWP.ret ?_
            exact hK _ _ _ _ trivial ((Fin.mk (by simp [aRes, aResL, aRes1, idf_Wd', Sp.av, Sp.cells, Sg.av, Sg.cells]; try rfl)).cast (by rw [rgF_twice h3 h12 hG ⟨i, k, hk, hi', he.symm⟩]))
          · try simp only [decide_eq_true_eq, decide_eq_false_iff_not] at h50
            have hn1 : ∀ k, k < i → gs r i ≠ gs r k := fun k hk he => h50 ((take_gs hi).2 ⟨k, hk, he.symm⟩)
            refine AWP.skip ?_
            refine hK20 _ ?_
            refine AWP.region (AOPS.all (by simp (disch := first|omega|(simp only[ln];omega)) [idf_Wd', Sp.av, Sp.cells, Sg.av, Sg.cells, g40]; rfl) ?_)
            refine ⟨r.length - (i + 1), by omega, i + 1, rfl, by omega, fun j k h h' => by rcases Nat.lt_succ_iff_lt_or_eq.1 h' with h' | h'; exact hnd j k h h'; rw [h']; exact hn1 k (by omega), by simp (disch := omega) [g1, g3, g38, g39, g40, Hr], by simp (disch := omega) [g1, g3, g38, g39, g40, Hr], by simp (disch := omega) [g1, g3, g38, g39, g40, Hr], by simp (disch := omega) [g1, g3, g38, g39, g40, Hr], by simp (disch := omega) [g1, g3, g38, g39, g40, Hr], by simp (disch := omega) [g1, g3, g38, g39, g40, Hr], by first | omega | (simp; done) | (simp; omega), rfl⟩
        · try simp only [decide_eq_true_eq, decide_eq_false_iff_not] at h41
          have hD : ¬ rgDup r := by rintro ⟨j, k, q1, q2, q3⟩; exact hnd j k q1 (by omega) q3
          clear hnd
          refine AWP.exit ?_
          refine hK16 _ ?_
          refine AWP.seqk fun K25 hK25 => ?_
          refine AWP.region ?_
          refine AOPS.runk 1 (by simp (disch := first|omega|(simp only[ln];omega)) [List.take_succ_cons, List.take_zero, idf_Wd', Sp.av, Sp.cells, Sg.av, Sg.cells, g1, Hr]; rfl) ?_
          simp only [List.drop_succ_cons, List.drop_zero]
          refine AOPS.fcall (sides_fc r hl) rfl rfl rfl hb118 (by simp (disch := first|omega|(simp only[ln];omega)) [idf_Wd', g1, Hr, Sp.av, Sp.cells, Sg.av, Sg.cells]) (by simp (disch := first|omega|(simp only[ln];omega)) [g1, Hr]) (by simp) ?_
          simp only [puts_some, updo]
          refine AOPS.all (by simp (disch := first|omega|(simp only[ln];omega)) [idf_Wd', Sp.av, Sp.cells, Sg.av, Sg.cells, g1, Hr]; rfl) ?_
          refine hK25 _ ?_
          refine AWP.seqk fun K26 hK26 => ?_
          refine AWP.seqk fun K27 hK27 => ?_
          refine AWP.region (AOPS.all (by simp (disch := first|omega|(simp only[ln];omega)) [idf_Wd', Sp.av, Sp.cells, Sg.av, Sg.cells, sds_len, List.length_map]; rfl) ?_)
          refine hK27 _ ?_
          refine AWP.block ?_
          
          refine AWP.loop (fun N s => ∃ i : Nat, N = r.length - i ∧ i ≤ r.length ∧ (∀ j k, k < j → j < i → ¬ badS r j k) ∧ s.env 3 = .int .i64 (r.length : Int) ∧ s.env 8 = .isl ((sds r).map Sg.cells) ∧ s.env 54 = .isl ((sds r).map Sg.cells) ∧ s.env 55 = .int .i64 (r.length : Int) ∧ s.env 56 = .int .i64 (i : Int) ∧ s.nt = 103) (r.length) (⟨0, by omega, by omega, fun j k h h' => by omega, by simp (disch := omega) [g3], by simp (disch := omega) [g3], by simp (disch := omega) [g3], by simp (disch := omega) [g3], by simp (disch := omega) [g3], rfl⟩) ?_
          clear g1 g3 g38 g39 g40 Hr
          rintro N ⟨e, H, mm, nt⟩ ⟨i, rfl, hi, hok, g3, g8, g54, g55, g56, rfl⟩
          simp only [] at g3 g8 g54 g55 g56
          refine AWP.seqk fun K28 hK28 => ?_
          refine AWP.region (AOPS.all (by simp (disch := first|omega|(simp only[ln];omega)) [idf_Wd', Sp.av, Sp.cells, Sg.av, Sg.cells, g55, g56]; rfl) ?_)
          refine hK28 _ ?_
          refine AWP.seqk fun K29 hK29 => ?_
          refine cond_ok _ (by simp (disch := first|omega|(simp only[ln];omega)); rfl) (fun h57 => ?_) (fun h57 => ?_)
          · try simp only [decide_eq_true_eq, decide_eq_false_iff_not] at h57
            have hi' : i < r.length := by omega
            have hat := sds_at hi'
            have gi := sd_good (by omega) hG hD hi'
            refine AWP.skip ?_
            refine hK29 _ ?_
            refine AWP.seqk fun K30 hK30 => ?_
            refine AWP.block ?_
            refine AWP.seqk fun K31 hK31 => ?_
            refine AWP.region (AOPS.all (by simp (disch := first|omega|(simp only[ln];omega)) [if_pos, idf_Wd', Sp.av, Sp.cells, Sg.av, Sg.cells, g54, g56, hat, sds_len, List.length_map]; rfl) ?_)
            refine hK31 _ ?_
            refine AWP.seqk fun K32 hK32 => ?_
            refine AWP.region (AOPS.all (by simp (disch := first|omega|(simp only[ln];omega)) [if_pos, idf_Wd', Sp.av, Sp.cells, Sg.av, Sg.cells, g8, hi, sds_len, List.length_take, Nat.min_eq_left, List.length_map]; rfl) ?_)
            refine hK32 _ ?_
            refine AWP.block ?_
            
            refine AWP.loop (fun N s => ∃ k : Nat, ∃ id : Nat, N = i - k ∧ k ≤ i ∧ (∀ k', k' < k → ¬ badS r i k') ∧ s.env 3 = .int .i64 (r.length : Int) ∧ s.env 8 = .isl ((sds r).map Sg.cells) ∧ s.env 9 = .int .i64 (i : Int) ∧ s.env 10 = .ptr id 0 0 ∧ s.env 54 = .isl ((sds r).map Sg.cells) ∧ s.env 55 = .int .i64 (r.length : Int) ∧ s.env 56 = .int .i64 (i : Int) ∧ s.env 63 = .isl ((sds r).map Sg.cells |>.take i) ∧ s.env 64 = .int .i64 (i : Int) ∧ s.env 65 = .int .i64 (k : Int) ∧ s.heap id = some (4, [[.int .i64 (sd r i).a.x, .int .i64 (sd r i).a.y, .int .i64 (sd r i).b.x, .int .i64 (sd r i).b.y]]) ∧ id < s.nx ∧ s.nt = 103) (i) (⟨0, mm, by omega, by omega, fun j h => by omega, by simp (disch := omega) [g3, g8, g54, g55, g56], by simp (disch := omega) [g3, g8, g54, g55, g56], by simp (disch := omega) [g3, g8, g54, g55, g56], by simp (disch := omega) [g3, g8, g54, g55, g56], by simp (disch := omega) [g3, g8, g54, g55, g56], by simp (disch := omega) [g3, g8, g54, g55, g56], by simp (disch := omega) [g3, g8, g54, g55, g56], by simp (disch := omega) [g3, g8, g54, g55, g56], by simp (disch := omega) [g3, g8, g54, g55, g56], by simp (disch := omega) [g3, g8, g54, g55, g56], by simp (disch := omega) [g3, g8, g54, g55, g56], by first | omega | (simp; done) | (simp; omega), rfl⟩) ?_
            clear g3 g8 g54 g55 g56
            rintro N ⟨e, H, mm, nt⟩ ⟨k, id, rfl, hk, hk2, g3, g8, g9, g10, g54, g55, g56, g63, g64, g65, Hs, xs, rfl⟩
            simp only [] at g3 g8 g9 g10 g54 g55 g56 g63 g64 g65 Hs xs
            refine AWP.seqk fun K33 hK33 => ?_
            refine AWP.region (AOPS.all (by simp (disch := first|omega|(simp only[ln];omega)) [idf_Wd', Sp.av, Sp.cells, Sg.av, Sg.cells, g64, g65]; rfl) ?_)
            refine hK33 _ ?_
            refine AWP.seqk fun K34 hK34 => ?_
            refine cond_ok _ (by simp (disch := first|omega|(simp only[ln];omega)); rfl) (fun h66 => ?_) (fun h66 => ?_)
            · try simp only [decide_eq_true_eq, decide_eq_false_iff_not] at h66
              have hk' : k < i := by omega
              have hki : k < r.length := by omega
              have hatk := sds_at hki
              have gk := sd_good (by omega) hG hD hki
              have hmt := meetI_fc (sd r i) (sd r k) gi gk
              obtain ⟨M, hM⟩ : ∃ M, meetI (sd r i) (sd r k) = M := ⟨_, rfl⟩
              rw [hM] at hmt
              have hbd : badS r i k ↔ (M.1 = 2 ∨ (M.1 = 1 ∧ ¬ nxt r.length i k)) := by unfold badS mkd; rw [hM]
              refine AWP.skip ?_
              refine hK34 _ ?_
              refine AWP.seqk fun K35 hK35 => ?_
              refine AWP.block ?_
              refine AWP.seqk fun K36 hK36 => ?_
              refine AWP.region (AOPS.all (by simp (disch := first|omega|(simp only[ln];omega)) [if_pos, idf_Wd', Sp.av, Sp.cells, Sg.av, Sg.cells, g63, g65, hk', hatk, sds_len, List.getElem?_take, List.length_take, List.length_map]; rfl) ?_)
              refine hK36 _ ?_
              refine AWP.seqk fun K37 hK37 => ?_
              refine AWP.region ?_
              refine AOPS.runk 2 (by simp (disch := first|omega|(simp only[ln];omega)) [List.take_succ_cons, List.take_zero, idf_Wd', Sp.av, Sp.cells, Sg.av, Sg.cells, g10, Hs]; rfl) ?_
              simp only [List.drop_succ_cons, List.drop_zero]
              refine AOPS.fcall (hmt) rfl rfl rfl hb98 (by simp (disch := first|omega|(simp only[ln];omega)) [idf_Wd', g10, Hs, Sp.av, Sp.cells, Sg.av, Sg.cells]) (by simp (disch := first|omega|(simp only[ln];omega)) [g10, Hs]) (by simp) ?_
              simp only [puts_some, updo]
              refine AOPS.all (by simp (disch := first|omega|(simp only[ln];omega)) [idf_Wd', Sp.av, Sp.cells, Sg.av, Sg.cells, g10, Hs]; rfl) ?_
              refine hK37 _ ?_
              refine AWP.seqk fun K38 hK38 => ?_
              have J38 : ∀ s : St, (∃ nb : Bool, (nb = true ↔ nxt r.length i k) ∧ s.env 3 = .int .i64 (r.length : Int) ∧ s.env 8 = .isl ((sds r).map Sg.cells) ∧ s.env 9 = .int .i64 (i : Int) ∧ s.env 10 = .ptr id 0 0 ∧ s.env 54 = .isl ((sds r).map Sg.cells) ∧ s.env 55 = .int .i64 (r.length : Int) ∧ s.env 56 = .int .i64 (i : Int) ∧ s.env 63 = .isl ((sds r).map Sg.cells |>.take i) ∧ s.env 64 = .int .i64 (i : Int) ∧ s.env 65 = .int .i64 (k : Int) ∧ s.env 11 = .int .i64 (k : Int) ∧ s.env 13 = .int .i64 (M.1 : Int) ∧ s.env 16 = .bool nb ∧ s.heap id = some (4, [[.int .i64 (sd r i).a.x, .int .i64 (sd r i).a.y, .int .i64 (sd r i).b.x, .int .i64 (sd r i).b.y]]) ∧ id < s.nx ∧ s.nt = 103) → K38 s := by
                clear g3 g8 g9 g10 g54 g55 g56 g63 g64 g65 Hs xs
                rintro ⟨e, H, mm, nt⟩ ⟨nb, hnb, g3, g8, g9, g10, g54, g55, g56, g63, g64, g65, g11, g13, g16, Hs, xs, rfl⟩
                simp only [] at g3 g8 g9 g10 g54 g55 g56 g63 g64 g65 g11 g13 g16 Hs xs
                refine hK38 _ ?_
                refine AWP.seqk fun K39 hK39 => ?_
                by_cases m2 : M.1 = 2
                · have d2 : (M.1 == 2) = true := by simp [m2]
                  refine AWP.region (AOPS.all (by simp (disch := first|omega|(simp only[ln];omega)) [idf_Wd', Sp.av, Sp.cells, Sg.av, Sg.cells, g13, g16, d2]; rfl) ?_)
                  refine hK39 _ ?_
                  refine cond_ok _ (by simp (disch := first|omega|(simp only[ln];omega)); rfl) (fun h100 => ?_) (fun h100 => ?_)
                  · try simp only [decide_eq_true_eq, decide_eq_false_iff_not] at h100
                    have hbad : badS r i k := hbd.2 (.inl m2)
                    refine AWP.seqk fun K40 hK40 => ?_
                    refine AWP.region (AOPS.all (by simp (disch := first|omega|(simp only[ln];omega)) [idf_Wd', Sp.av, Sp.cells, Sg.av, Sg.cells]; rfl) ?_)
                    refine hK40 _ ?_
                    refine AWP.ret ?_
                    exact hK _ _ _ _ trivial ((Fin.mk (by simp [aRes, aResL, aRes1, idf_Wd', Sp.av, Sp.cells, Sg.av, Sg.cells]; try rfl)).cast (by rw [rgF_cross h3 h12 hG hD ⟨i, k, hk', hi', hbad⟩]))
                  · simp at h100
                · have d2 : (M.1 == 2) = false := by simp [m2]
                  by_cases m1 : M.1 = 1
                  · have d1 : (M.1 == 1) = true := by simp [m1]
                    refine AWP.region (AOPS.all (by simp (disch := first|omega|(simp only[ln];omega)) [idf_Wd', Sp.av, Sp.cells, Sg.av, Sg.cells, g13, g16, d2, d1]; rfl) ?_)
                    refine hK39 _ ?_
                    refine cond_ok (!nb) (by simp (disch := first|omega|(simp only[ln];omega))) (fun h100 => ?_) (fun h100 => ?_)
                    · try simp only [decide_eq_true_eq, decide_eq_false_iff_not] at h100
                      have hf : nb = false := by simpa using h100
                      have hbad : badS r i k := hbd.2 (.inr ⟨m1, fun h => by rw [hnb.2 h] at hf; simp at hf⟩)
                      refine AWP.seqk fun K41 hK41 => ?_
                      refine AWP.region (AOPS.all (by simp (disch := first|omega|(simp only[ln];omega)) [idf_Wd', Sp.av, Sp.cells, Sg.av, Sg.cells]; rfl) ?_)
                      refine hK41 _ ?_
                      refine AWP.ret ?_
                      exact hK _ _ _ _ trivial ((Fin.mk (by simp [aRes, aResL, aRes1, idf_Wd', Sp.av, Sp.cells, Sg.av, Sg.cells]; try rfl)).cast (by rw [rgF_cross h3 h12 hG hD ⟨i, k, hk', hi', hbad⟩]))
                    · try simp only [decide_eq_true_eq, decide_eq_false_iff_not] at h100
                      have hf : nb = true := by simpa using h100
                      have hnbad : ¬ badS r i k := fun h => by rcases hbd.1 h with h | h; exact m2 h; exact h.2 (hnb.1 hf)
                      refine AWP.skip ?_
                      refine hK35 _ ?_
                      refine AWP.region (AOPS.all (by simp (disch := first|omega|(simp only[ln];omega)) [idf_Wd', Sp.av, Sp.cells, Sg.av, Sg.cells, g65]; rfl) ?_)
                      refine ⟨i - (k + 1), by omega, k + 1, id, rfl, by omega, fun j h => by rcases Nat.lt_succ_iff_lt_or_eq.1 h with h | h; exact hk2 j h; rw [h]; exact hnbad, by simp (disch := omega) [g3, g8, g9, g10, g54, g55, g56, g63, g64, g65, Hs], by simp (disch := omega) [g3, g8, g9, g10, g54, g55, g56, g63, g64, g65, Hs], by simp (disch := omega) [g3, g8, g9, g10, g54, g55, g56, g63, g64, g65, Hs], by simp (disch := omega) [g3, g8, g9, g10, g54, g55, g56, g63, g64, g65, Hs], by simp (disch := omega) [g3, g8, g9, g10, g54, g55, g56, g63, g64, g65, Hs], by simp (disch := omega) [g3, g8, g9, g10, g54, g55, g56, g63, g64, g65, Hs], by simp (disch := omega) [g3, g8, g9, g10, g54, g55, g56, g63, g64, g65, Hs], by simp (disch := omega) [g3, g8, g9, g10, g54, g55, g56, g63, g64, g65, Hs], by simp (disch := omega) [g3, g8, g9, g10, g54, g55, g56, g63, g64, g65, Hs], by simp (disch := omega) [g3, g8, g9, g10, g54, g55, g56, g63, g64, g65, Hs], by simp (disch := omega) [g3, g8, g9, g10, g54, g55, g56, g63, g64, g65, Hs], by first | omega | (simp; done) | (simp; omega), rfl⟩
                  · have d1 : (M.1 == 1) = false := by simp [m1]
                    refine AWP.region (AOPS.all (by simp (disch := first|omega|(simp only[ln];omega)) [idf_Wd', Sp.av, Sp.cells, Sg.av, Sg.cells, g13, g16, d2, d1]; rfl) ?_)
                    refine hK39 _ ?_
                    refine cond_ok _ (by simp (disch := first|omega|(simp only[ln];omega)); rfl) (fun h100 => ?_) (fun h100 => ?_)
                    · simp at h100
                    · try simp only [decide_eq_true_eq, decide_eq_false_iff_not] at h100
                      have hnbad : ¬ badS r i k := fun h => by rcases hbd.1 h with h | h; exact m2 h; exact m1 h.1
                      refine AWP.skip ?_
                      refine hK35 _ ?_
                      refine AWP.region (AOPS.all (by simp (disch := first|omega|(simp only[ln];omega)) [idf_Wd', Sp.av, Sp.cells, Sg.av, Sg.cells, g65]; rfl) ?_)
                      refine ⟨i - (k + 1), by omega, k + 1, id, rfl, by omega, fun j h => by rcases Nat.lt_succ_iff_lt_or_eq.1 h with h | h; exact hk2 j h; rw [h]; exact hnbad, by simp (disch := omega) [g3, g8, g9, g10, g54, g55, g56, g63, g64, g65, Hs], by simp (disch := omega) [g3, g8, g9, g10, g54, g55, g56, g63, g64, g65, Hs], by simp (disch := omega) [g3, g8, g9, g10, g54, g55, g56, g63, g64, g65, Hs], by simp (disch := omega) [g3, g8, g9, g10, g54, g55, g56, g63, g64, g65, Hs], by simp (disch := omega) [g3, g8, g9, g10, g54, g55, g56, g63, g64, g65, Hs], by simp (disch := omega) [g3, g8, g9, g10, g54, g55, g56, g63, g64, g65, Hs], by simp (disch := omega) [g3, g8, g9, g10, g54, g55, g56, g63, g64, g65, Hs], by simp (disch := omega) [g3, g8, g9, g10, g54, g55, g56, g63, g64, g65, Hs], by simp (disch := omega) [g3, g8, g9, g10, g54, g55, g56, g63, g64, g65, Hs], by simp (disch := omega) [g3, g8, g9, g10, g54, g55, g56, g63, g64, g65, Hs], by simp (disch := omega) [g3, g8, g9, g10, g54, g55, g56, g63, g64, g65, Hs], by first | omega | (simp; done) | (simp; omega), rfl⟩
              by_cases q1 : (k : Int) = (i : Int) - 1
              · have c1 : ((k : Int) == (i : Int) - 1) = true := by simp [q1]
                refine AWP.region (AOPS.all (by simp (disch := first|omega|(simp only[ln];omega)) [idf_Wd', Sp.av, Sp.cells, Sg.av, Sg.cells, g3, g8, g9, g10, g54, g55, g56, g63, g64, g65, Hs, c1]; rfl) ?_)
                refine J38 _ ?_
                exact ⟨true, ⟨fun _ => .inl (by omega), fun _ => rfl⟩, by simp (disch := omega) [g3, g8, g9, g10, g54, g55, g56, g63, g64, g65, Hs], by simp (disch := omega) [g3, g8, g9, g10, g54, g55, g56, g63, g64, g65, Hs], by simp (disch := omega) [g3, g8, g9, g10, g54, g55, g56, g63, g64, g65, Hs], by simp (disch := omega) [g3, g8, g9, g10, g54, g55, g56, g63, g64, g65, Hs], by simp (disch := omega) [g3, g8, g9, g10, g54, g55, g56, g63, g64, g65, Hs], by simp (disch := omega) [g3, g8, g9, g10, g54, g55, g56, g63, g64, g65, Hs], by simp (disch := omega) [g3, g8, g9, g10, g54, g55, g56, g63, g64, g65, Hs], by simp (disch := omega) [g3, g8, g9, g10, g54, g55, g56, g63, g64, g65, Hs], by simp (disch := omega) [g3, g8, g9, g10, g54, g55, g56, g63, g64, g65, Hs], by simp (disch := omega) [g3, g8, g9, g10, g54, g55, g56, g63, g64, g65, Hs], by simp (disch := omega) [g3, g8, g9, g10, g54, g55, g56, g63, g64, g65, Hs], by simp (disch := omega) [g3, g8, g9, g10, g54, g55, g56, g63, g64, g65, Hs], by simp (disch := omega) [g3, g8, g9, g10, g54, g55, g56, g63, g64, g65, Hs], by simp (disch := omega) [g3, g8, g9, g10, g54, g55, g56, g63, g64, g65, Hs], by first | omega | (simp; done) | (simp; omega), rfl⟩
              · have c1 : ((k : Int) == (i : Int) - 1) = false := by simp [q1]
                by_cases q2 : k = 0
                · have c2 : ((k : Int) == 0) = true := by simp [q2]
                  have c2' : (k == 0) = true := by simp [q2]
                  by_cases q3 : (i : Int) = (r.length : Int) - 1
                  · have c3 : ((i : Int) == (r.length : Int) - 1) = true := by simp [q3]
                    refine AWP.region (AOPS.all (by simp (disch := first|omega|(simp only[ln];omega)) [idf_Wd', Sp.av, Sp.cells, Sg.av, Sg.cells, g3, g8, g9, g10, g54, g55, g56, g63, g64, g65, Hs, c1, c2, c2', c3]; rfl) ?_)
                    refine J38 _ ?_
                    exact ⟨true, ⟨fun _ => .inr ⟨by omega, by omega⟩, fun _ => rfl⟩, by simp (disch := omega) [g3, g8, g9, g10, g54, g55, g56, g63, g64, g65, Hs], by simp (disch := omega) [g3, g8, g9, g10, g54, g55, g56, g63, g64, g65, Hs], by simp (disch := omega) [g3, g8, g9, g10, g54, g55, g56, g63, g64, g65, Hs], by simp (disch := omega) [g3, g8, g9, g10, g54, g55, g56, g63, g64, g65, Hs], by simp (disch := omega) [g3, g8, g9, g10, g54, g55, g56, g63, g64, g65, Hs], by simp (disch := omega) [g3, g8, g9, g10, g54, g55, g56, g63, g64, g65, Hs], by simp (disch := omega) [g3, g8, g9, g10, g54, g55, g56, g63, g64, g65, Hs], by simp (disch := omega) [g3, g8, g9, g10, g54, g55, g56, g63, g64, g65, Hs], by simp (disch := omega) [g3, g8, g9, g10, g54, g55, g56, g63, g64, g65, Hs], by simp (disch := omega) [g3, g8, g9, g10, g54, g55, g56, g63, g64, g65, Hs], by simp (disch := omega) [g3, g8, g9, g10, g54, g55, g56, g63, g64, g65, Hs], by simp (disch := omega) [g3, g8, g9, g10, g54, g55, g56, g63, g64, g65, Hs], by simp (disch := omega) [g3, g8, g9, g10, g54, g55, g56, g63, g64, g65, Hs], by simp (disch := omega) [g3, g8, g9, g10, g54, g55, g56, g63, g64, g65, Hs], by first | omega | (simp; done) | (simp; omega), rfl⟩
                  · have c3 : ((i : Int) == (r.length : Int) - 1) = false := by simp [q3]
                    refine AWP.region (AOPS.all (by simp (disch := first|omega|(simp only[ln];omega)) [idf_Wd', Sp.av, Sp.cells, Sg.av, Sg.cells, g3, g8, g9, g10, g54, g55, g56, g63, g64, g65, Hs, c1, c2, c2', c3]; rfl) ?_)
                    refine J38 _ ?_
                    exact ⟨false, ⟨fun h => by simp at h, fun h => by rcases h with h | ⟨h, h'⟩ <;> omega⟩, by simp (disch := omega) [g3, g8, g9, g10, g54, g55, g56, g63, g64, g65, Hs], by simp (disch := omega) [g3, g8, g9, g10, g54, g55, g56, g63, g64, g65, Hs], by simp (disch := omega) [g3, g8, g9, g10, g54, g55, g56, g63, g64, g65, Hs], by simp (disch := omega) [g3, g8, g9, g10, g54, g55, g56, g63, g64, g65, Hs], by simp (disch := omega) [g3, g8, g9, g10, g54, g55, g56, g63, g64, g65, Hs], by simp (disch := omega) [g3, g8, g9, g10, g54, g55, g56, g63, g64, g65, Hs], by simp (disch := omega) [g3, g8, g9, g10, g54, g55, g56, g63, g64, g65, Hs], by simp (disch := omega) [g3, g8, g9, g10, g54, g55, g56, g63, g64, g65, Hs], by simp (disch := omega) [g3, g8, g9, g10, g54, g55, g56, g63, g64, g65, Hs], by simp (disch := omega) [g3, g8, g9, g10, g54, g55, g56, g63, g64, g65, Hs], by simp (disch := omega) [g3, g8, g9, g10, g54, g55, g56, g63, g64, g65, Hs], by simp (disch := omega) [g3, g8, g9, g10, g54, g55, g56, g63, g64, g65, Hs], by simp (disch := omega) [g3, g8, g9, g10, g54, g55, g56, g63, g64, g65, Hs], by simp (disch := omega) [g3, g8, g9, g10, g54, g55, g56, g63, g64, g65, Hs], by first | omega | (simp; done) | (simp; omega), rfl⟩
                · have c2 : ((k : Int) == 0) = false := by simp; omega
                  have c2' : (k == 0) = false := by simp; omega
                  refine AWP.region (AOPS.all (by simp (disch := first|omega|(simp only[ln];omega)) [idf_Wd', Sp.av, Sp.cells, Sg.av, Sg.cells, g3, g8, g9, g10, g54, g55, g56, g63, g64, g65, Hs, c1, c2, c2']; rfl) ?_)
                  refine J38 _ ?_
                  exact ⟨false, ⟨fun h => by simp at h, fun h => by rcases h with h | ⟨h, h'⟩ <;> omega⟩, by simp (disch := omega) [g3, g8, g9, g10, g54, g55, g56, g63, g64, g65, Hs], by simp (disch := omega) [g3, g8, g9, g10, g54, g55, g56, g63, g64, g65, Hs], by simp (disch := omega) [g3, g8, g9, g10, g54, g55, g56, g63, g64, g65, Hs], by simp (disch := omega) [g3, g8, g9, g10, g54, g55, g56, g63, g64, g65, Hs], by simp (disch := omega) [g3, g8, g9, g10, g54, g55, g56, g63, g64, g65, Hs], by simp (disch := omega) [g3, g8, g9, g10, g54, g55, g56, g63, g64, g65, Hs], by simp (disch := omega) [g3, g8, g9, g10, g54, g55, g56, g63, g64, g65, Hs], by simp (disch := omega) [g3, g8, g9, g10, g54, g55, g56, g63, g64, g65, Hs], by simp (disch := omega) [g3, g8, g9, g10, g54, g55, g56, g63, g64, g65, Hs], by simp (disch := omega) [g3, g8, g9, g10, g54, g55, g56, g63, g64, g65, Hs], by simp (disch := omega) [g3, g8, g9, g10, g54, g55, g56, g63, g64, g65, Hs], by simp (disch := omega) [g3, g8, g9, g10, g54, g55, g56, g63, g64, g65, Hs], by simp (disch := omega) [g3, g8, g9, g10, g54, g55, g56, g63, g64, g65, Hs], by simp (disch := omega) [g3, g8, g9, g10, g54, g55, g56, g63, g64, g65, Hs], by first | omega | (simp; done) | (simp; omega), rfl⟩
            · try simp only [decide_eq_true_eq, decide_eq_false_iff_not] at h66
              have hn1 : ∀ k', k' < i → ¬ badS r i k' := fun k' h => hk2 k' (by omega)
              refine AWP.exit ?_
              refine hK30 _ ?_
              refine AWP.region (AOPS.all (by simp (disch := first|omega|(simp only[ln];omega)) [idf_Wd', Sp.av, Sp.cells, Sg.av, Sg.cells, g56]; rfl) ?_)
              refine ⟨r.length - (i + 1), by omega, i + 1, rfl, by omega, fun j k h h' => by rcases Nat.lt_succ_iff_lt_or_eq.1 h' with h' | h'; exact hok j k h h'; rw [h']; exact hn1 k (by omega), by simp (disch := omega) [g3, g8, g54, g55, g56], by simp (disch := omega) [g3, g8, g54, g55, g56], by simp (disch := omega) [g3, g8, g54, g55, g56], by simp (disch := omega) [g3, g8, g54, g55, g56], by simp (disch := omega) [g3, g8, g54, g55, g56], rfl⟩
          · try simp only [decide_eq_true_eq, decide_eq_false_iff_not] at h57
            have hX : ¬ rgX r := by rintro ⟨j, k, q1, q2, q3⟩; exact hok j k q1 (by omega) q3
            refine AWP.exit ?_
            refine hK26 _ ?_
            refine AWP.seqk fun K42 hK42 => ?_
            refine AWP.region (AOPS.all (by simp (disch := first|omega|(simp only[ln];omega)) [idf_Wd', Sp.av, Sp.cells, Sg.av, Sg.cells]; rfl) ?_)
            refine hK42 _ ?_
            refine AWP.ret ?_
            exact hK _ _ _ _ trivial ((Fin.mk (by simp [aRes, aResL, aRes1, idf_Wd', Sp.av, Sp.cells, Sg.av, Sg.cells]; try rfl)).cast (by rw [rgF_ok h3 h12 hG hD hX]))

theorem isRing_fc (r : List Sp) (hl : r.length ≤ 1099511627776) : FC Try.prog 151 [.agg [.isl (r.map Sp.cells)]] (.bool (decide (rgF r = 0))) := by
  refine FC.body Try.func151 rfl (by simp [idfL, idf, idfLL_iff, Sp.av, Sp.cells, Sg.av, Sg.cells]) (by simp [idfL, idf, idfLL_iff, idf_Wd', Sp.av, Sp.cells, Sg.av, Sg.cells]) 6 rfl fun nx K hK => ?_
  refine AWP.seqk fun K1 hK1 => ?_
  refine AWP.region (AOPS.all (by simp (disch := first|omega|(simp only[ln];omega)) [idf_Wd', Sp.av, Sp.cells, Sg.av, Sg.cells]; rfl) ?_)
  refine hK1 _ ?_
  refine AWP.seqk fun K2 hK2 => ?_
  refine AWP.region ?_
  refine AOPS.runk 1 (by simp (disch := first|omega|(simp only[ln];omega)) [List.take_succ_cons, List.take_zero, idf_Wd', Sp.av, Sp.cells, Sg.av, Sg.cells]; rfl) ?_
  simp only [List.drop_succ_cons, List.drop_zero]
  refine AOPS.fcall (ringFaultI_fc r hl) rfl rfl rfl hb38 (by simp (disch := first|omega|(simp only[ln];omega)) [idf_Wd', Sp.av, Sp.cells, Sg.av, Sg.cells]) (by simp (disch := first|omega|(simp only[ln];omega))) (by simp) ?_
  simp only [puts_some, updo]
  refine AOPS.all (by simp (disch := first|omega|(simp only[ln];omega)) [idf_Wd', Sp.av, Sp.cells, Sg.av, Sg.cells]; rfl) ?_
  refine hK2 _ ?_
  refine AWP.ret ?_
  exact hK _ _ _ _ trivial ((Fin.mk (by simp [aRes, aResL, aRes1, idf_Wd', Sp.av, Sp.cells, Sg.av, Sg.cells]; try rfl)).cast (by rw [beqdI]))

end Go.Proofs.Ytmaebeknmiomnaa

/- Walks: rings, by the reference. -/
namespace Go.Proofs.Ytmaebeknmiomnaa
open Go Go.RowKit
set_option linter.unusedSimpArgs false
set_option linter.unusedVariables false
set_option maxRecDepth 100000
attribute [local simp] List.getElem?_cons_zero List.getElem?_cons_succ List.getElem?_toArray runOps stepOp.eq_def agd.eq_def dstOk.eq_def opVal.eq_def opNew.eq_def opSto.eq_def ev.eq_def cv.eq_def puts_some puts_none upd_ap lst.eq_def aBin.eq_def aUn.eq_def aBi_str aBi_isl aBi_osl aBi_nsl aBi_max aBi_min aBi_max3 aConv.eq_def aLd.eq_def aLoad.eq_def aField.eq_def aFld.eq_def aIdx_isl aIdx_osl aSlc_isl aSlc_osl aSlc_str aSlc_nsl bnd.eq_def evs_nil evs_cons aBuild.eq_def aFill splice.eq_def cells_agg cells_int cells_bool cells_str cells_nil cells_nsl cells_isl cells_osl cells_ptr cells_ip cells_fn cells_Wd one_int one_bool one_str one_nil one_nsl one_isl one_osl one_ptr one_ip one_fn one_Wd aSets hupd_eq hupd_ne wrap_i64s wrap_u64s wrap_u32s wrap_u8s wd_getD wd_set wd_len wd_replicate wd_one wd_fold fz_osl hupd_same aSix.eq_def aEqS.eq_def aEqB_bool aEqB_nsl aEqB_nil
attribute [local simp] szT2 byT2 agT2 unT2 zoT2 szT3 byT3 agT3 unT3 zoT3 szT60 byT60 agT60 elT60 unT60 zoT60 szT62 byT62 agT62 flT62 fdT62_0 zoT62 szT67 byT67 agT67 flT67 fdT67_0 fdT67_1 zoT67 szT69 byT69 agT69 flT69 fdT69_0 fdT69_1 zoT69 szT113 byT113 agT113 flT113 fdT113_0 fdT113_1 zoT113 szT115 byT115 agT115 flT115 fdT115_0 fdT115_1 fdT115_2 zoT115

theorem l4V_k {u v : Sg} (gu : u.good = true) (gv : v.good = true) : ∃ (b1 b2 b3 c1 c2 c3 : Bool) (s1 s2 s3 t1 t2 t3 : AV), l4V u v = .tup [.int .i64 (meetI u v).1, .agg [.bool b1, s1, .bool b2, s2, .bool b3, s3], .agg [.bool c1, t1, .bool c2, t2, .bool c3, t3]] ∧ avOne s1 = true ∧ avOne s2 = true ∧ avOne s3 = true ∧ avOne t1 = true ∧ avOne t2 = true ∧ avOne t3 = true := by
  have e := meet_eq gu gv
  rw [e]
  unfold l4V meetS linP z3 l3A l3C
  have ow : ∀ x, avOne (Wd .u32 (dg x)) = true := fun x => rfl
  have on : avOne .nsl = true := rfl
  by_cases h0 : crs u.a u.b v.a = 0 ∧ crs u.a u.b v.b = 0
  · rw [if_pos h0, if_pos h0]
    by_cases h1 : lsS (highS u v) (lowS u v) = true
    · rw [if_pos h1, if_pos h1]; exact ⟨_, _, _, _, _, _, _, _, _, _, _, _, rfl, on, on, on, on, on, on⟩
    · rw [if_neg h1, if_neg h1]
      by_cases h2 : lowS u v = highS u v
      · rw [if_pos h2, if_pos h2]; exact ⟨_, _, _, _, _, _, _, _, _, _, _, _, rfl, ow _, ow _, ow _, on, on, on⟩
      · rw [if_neg h2, if_neg h2]; exact ⟨_, _, _, _, _, _, _, _, _, _, _, _, rfl, ow _, ow _, ow _, ow _, ow _, ow _⟩
  · rw [if_neg h0, if_neg h0]
    by_cases h1 : noWay u v = true
    · rw [if_pos h1, if_pos h1]; exact ⟨_, _, _, _, _, _, _, _, _, _, _, _, rfl, on, on, on, on, on, on⟩
    · rw [if_neg h1, if_neg h1]; exact ⟨_, _, _, _, _, _, _, _, _, _, _, _, rfl, ow _, ow _, ow _, on, on, on⟩

set_option maxHeartbeats 1000000 in
theorem l5Side_fc (r : List Sp) (i : Nat) (hi' : i < r.length) (hl : r.length ≤ 1099511627776) : FC Try.prog 115 [.agg [.isl (r.map Sp.cells)], .int .i64 (i : Int)] (.agg [.int .i64 (sd r i).a.x, .int .i64 (sd r i).a.y, .int .i64 (sd r i).b.x, .int .i64 (sd r i).b.y]) := by
  have hat := rg_at hi'
  obtain ⟨j, hj⟩ : ∃ j : Nat, j = (i + 1) % r.length := ⟨_, rfl⟩
  have hjl : j < r.length := by rw [hj]; exact nx1_lt hi'
  have htm : Int.tmod ((i : Int) + 1) (r.length : Int) = (j : Int) := by rw [hj]; exact ite_tmod hi'
  have hat2 := rg_at hjl
  have hnj : gs r j = nx1 r i := by rw [hj]; rfl
  have hne : ¬ r = [] := by intro h; rw [h] at hi'; simp at hi'
  have hsd : sd r i = segO (gs r i) (gs r j) := by rw [hnj]; rfl
  refine FC.body Try.func115 rfl (by simp [idfL, idf, idfLL_iff, Sp.av, Sp.cells, Sg.av, Sg.cells]) (by simp [idfL, idf, idfLL_iff, idf_Wd', Sp.av, Sp.cells, Sg.av, Sg.cells]) 31 rfl fun nx K hK => ?_
  refine AWP.seqk fun K1 hK1 => ?_
  refine AWP.region (AOPS.all (by simp (disch := first|omega|(simp only[ln];omega)) [idf_Wd', Sp.av, Sp.cells, Sg.av, Sg.cells]; rfl) ?_)
  refine hK1 _ ?_
  refine AWP.seqk fun K2 hK2 => ?_
  refine AWP.region (AOPS.all (by simp (disch := first|omega|(simp only[ln];omega)) [if_pos, idf_Wd', Sp.av, Sp.cells, Sg.av, Sg.cells, hat, List.length_map]; rfl) ?_)
  refine hK2 _ ?_
  refine AWP.seqk fun K3 hK3 => ?_
  refine AWP.drawF 11 Try.checked.mixed (by kernel_rfl) (by simp (disch := first|omega|(simp only[ln];omega)) [runDf.eq_def, runF1, runF2, stepF.eq_def, updo.eq_def, hupo.eq_def, opSto1.eq_def, if_pos, idf_Wd', Sp.av, Sp.cells, Sg.av, Sg.cells, hat2, htm, hne, List.length_map]; rfl) ?_
  refine hK3 _ ?_
  refine AWP.seqk fun K4 hK4 => ?_
  refine AWP.seqk fun K5 hK5 => ?_
  refine AWP.region ?_
  refine AOPS.runk 2 (by simp (disch := first|omega|(simp only[ln];omega)) [List.take_succ_cons, List.take_zero, idf_Wd', Sp.av, Sp.cells, Sg.av, Sg.cells]; rfl) ?_
  simp only [List.drop_succ_cons, List.drop_zero]
  refine AOPS.fcall (l4Less_fc (gs r j) (gs r i)) rfl rfl rfl hb183 (by simp (disch := first|omega|(simp only[ln];omega)) [idf_Wd', Sp.av, Sp.cells, Sg.av, Sg.cells]) (by simp (disch := first|omega|(simp only[ln];omega))) (by simp) ?_
  simp only [puts_some, updo]
  refine AOPS.nil ?_
  refine hK5 _ ?_
  refine cond_ok (lsS (gs r j) (gs r i)) (by simp (disch := first|omega|(simp only[ln];omega))) (fun h24 => ?_) (fun h24 => ?_)
  · try simp only [decide_eq_true_eq, decide_eq_false_iff_not] at h24
    refine AWP.seqk fun K6 hK6 => ?_
    refine AWP.region (AOPS.all (by simp (disch := first|omega|(simp only[ln];omega)) [idf_Wd', Sp.av, Sp.cells, Sg.av, Sg.cells]; rfl) ?_)
    refine hK6 _ ?_
    refine AWP.ret ?_
    exact hK _ _ _ _ trivial ((Fin.mk (by simp (disch := omega) [aRes, aResL, aRes1, idf_Wd', Sp.av, Sp.cells, Sg.av, Sg.cells]; rfl)).cast (by rw [hsd]; unfold segO; rw [if_pos h24]))
  · try simp only [decide_eq_true_eq, decide_eq_false_iff_not] at h24
    refine AWP.skip ?_
    refine hK4 _ ?_
    refine AWP.seqk fun K7 hK7 => ?_
    refine AWP.region (AOPS.all (by simp (disch := first|omega|(simp only[ln];omega)) [idf_Wd', Sp.av, Sp.cells, Sg.av, Sg.cells]; rfl) ?_)
    refine hK7 _ ?_
    refine AWP.ret ?_
    exact hK _ _ _ _ trivial ((Fin.mk (by simp (disch := omega) [aRes, aResL, aRes1, idf_Wd', Sp.av, Sp.cells, Sg.av, Sg.cells]; rfl)).cast (by rw [hsd]; unfold segO; rw [h24]; rfl))

set_option maxHeartbeats 4000000 in
theorem ringFaultS_fc (r : List Sp) (hl : r.length ≤ 1099511627776) : FC Try.prog 36 [.agg [.isl (r.map Sp.cells)]] (.int .i64 (rgF r : Int)) := by
  refine FC.body Try.func36 rfl (by simp [idfL, idf, idfLL_iff, Sp.av, Sp.cells, Sg.av, Sg.cells]) (by simp [idfL, idf, idfLL_iff, idf_Wd', Sp.av, Sp.cells, Sg.av, Sg.cells]) 101 rfl fun nx K hK => ?_
  refine AWP.seqk fun K1 hK1 => ?_
  refine AWP.region (AOPS.all (by simp (disch := first|omega|(simp only[ln];omega)) [idf_Wd', Sp.av, Sp.cells, Sg.av, Sg.cells]; rfl) ?_)
  refine hK1 _ ?_
  refine AWP.seqk fun K2 hK2 => ?_
  refine AWP.region (AOPS.all (by simp (disch := first|omega|(simp only[ln];omega)) [idf_Wd', Sp.av, Sp.cells, Sg.av, Sg.cells, List.length_map]; rfl) ?_)
  refine hK2 _ ?_
  refine AWP.seqk fun K3 hK3 => ?_
  refine AWP.seqk fun K4 hK4 => ?_
  refine AWP.region (AOPS.all (by simp (disch := first|omega|(simp only[ln];omega)) [idf_Wd', Sp.av, Sp.cells, Sg.av, Sg.cells]; rfl) ?_)
  refine hK4 _ ?_
  refine cond_ok (decide ((r.length : Int) < 3)) (by simp (disch := first|omega|(simp only[ln];omega))) (fun h17 => ?_) (fun h17 => ?_)
  · try simp only [decide_eq_true_eq, decide_eq_false_iff_not] at h17
    refine AWP.seqk fun K5 hK5 => ?_
    refine AWP.region (AOPS.all (by simp (disch := first|omega|(simp only[ln];omega)) [idf_Wd', Sp.av, Sp.cells, Sg.av, Sg.cells]; rfl) ?_)
    refine hK5 _ ?_
    refine AWP.ret ?_
    exact hK _ _ _ _ trivial ((Fin.mk (by simp [aRes, aResL, aRes1, idf_Wd', Sp.av, Sp.cells, Sg.av, Sg.cells]; try rfl)).cast (by rw [rgF_few (by omega)]))
  · try simp only [decide_eq_true_eq, decide_eq_false_iff_not] at h17
    refine AWP.skip ?_
    refine hK3 _ ?_
    refine AWP.seqk fun K6 hK6 => ?_
    refine AWP.seqk fun K7 hK7 => ?_
    refine AWP.region (AOPS.all (by simp (disch := first|omega|(simp only[ln];omega)) [idf_Wd', Sp.av, Sp.cells, Sg.av, Sg.cells]; rfl) ?_)
    refine hK7 _ ?_
    refine cond_ok (decide (12 < (r.length : Int))) (by simp (disch := first|omega|(simp only[ln];omega))) (fun h19 => ?_) (fun h19 => ?_)
    · try simp only [decide_eq_true_eq, decide_eq_false_iff_not] at h19
      refine AWP.seqk fun K8 hK8 => ?_
      refine AWP.region (AOPS.all (by simp (disch := first|omega|(simp only[ln];omega)) [idf_Wd', Sp.av, Sp.cells, Sg.av, Sg.cells]; rfl) ?_)
      refine hK8 _ ?_
      refine AWP.ret ?_
      exact hK _ _ _ _ trivial ((Fin.mk (by simp [aRes, aResL, aRes1, idf_Wd', Sp.av, Sp.cells, Sg.av, Sg.cells]; try rfl)).cast (by rw [rgF_many (by omega)]))
    · try simp only [decide_eq_true_eq, decide_eq_false_iff_not] at h19
      have h3 : ¬ r.length < 3 := by omega
      have h12 : ¬ 12 < r.length := by omega
      refine AWP.skip ?_
      refine hK6 _ ?_
      refine AWP.seqk fun K9 hK9 => ?_
      refine AWP.seqk fun K10 hK10 => ?_
      refine AWP.region (AOPS.all (by simp (disch := first|omega|(simp only[ln];omega)) [idf_Wd', Sp.av, Sp.cells, Sg.av, Sg.cells]; rfl) ?_)
      refine hK10 _ ?_
      refine AWP.block ?_
      
      refine AWP.loop (fun N s => ∃ i : Nat, N = r.length - i ∧ i ≤ r.length ∧ (∀ j, j < i → (gs r j).good = true) ∧ s.env 1 = .ptr nx 0 0 ∧ s.env 3 = .int .i64 (r.length : Int) ∧ s.env 4 = .int .i64 (i : Int) ∧ s.heap nx = some (1, [[.isl (r.map Sp.cells)]]) ∧ nx < s.nx ∧ s.nt = 101) (r.length) (⟨0, by omega, by omega, fun j h => by omega, by simp (disch := omega), by simp (disch := omega), by simp (disch := omega), by simp (disch := omega), by first | omega | (simp; done) | (simp; omega), rfl⟩) ?_
      rintro N ⟨e, H, mm, nt⟩ ⟨i, rfl, hi, hgd, g1, g3, g4, Hr, xr, rfl⟩
      simp only [] at g1 g3 g4 Hr xr
      refine AWP.seqk fun K11 hK11 => ?_
      refine AWP.seqk fun K12 hK12 => ?_
      refine AWP.region (AOPS.all (by simp (disch := first|omega|(simp only[ln];omega)) [idf_Wd', Sp.av, Sp.cells, Sg.av, Sg.cells, g3, g4]; rfl) ?_)
      refine hK12 _ ?_
      refine cond_ok _ (by simp (disch := first|omega|(simp only[ln];omega)); rfl) (fun h22 => ?_) (fun h22 => ?_)
      · try simp only [decide_eq_true_eq, decide_eq_false_iff_not] at h22
        have hi' : i < r.length := by omega
        have hat := rg_at hi'
        refine AWP.skip ?_
        refine hK11 _ ?_
        refine AWP.seqk fun K13 hK13 => ?_
        refine AWP.block ?_
        refine AWP.seqk fun K14 hK14 => ?_
        refine AWP.region ?_
        refine AOPS.runk 5 (by simp (disch := first|omega|(simp only[ln];omega)) [List.take_succ_cons, List.take_zero, if_pos, idf_Wd', Sp.av, Sp.cells, Sg.av, Sg.cells, g1, g4, Hr, hat, List.length_map]; rfl) ?_
        simp only [List.drop_succ_cons, List.drop_zero]
        refine AOPS.fcall (spotOkS_fc (gs r i)) rfl rfl rfl hb114 (by simp (disch := first|omega|(simp only[ln];omega)) [idf_Wd', g1, g4, Hr, hat, List.length_map, Sp.av, Sp.cells, Sg.av, Sg.cells]) (by simp (disch := first|omega|(simp only[ln];omega)) [g1, g4, Hr, hat, List.length_map]) (by simp) ?_
        simp only [puts_some, updo]
        refine AOPS.all (by simp (disch := first|omega|(simp only[ln];omega)) [if_pos, idf_Wd', Sp.av, Sp.cells, Sg.av, Sg.cells, g1, g4, Hr, hat, List.length_map]; rfl) ?_
        refine hK14 _ ?_
        refine cond_ok (!(gs r i).good) (by simp (disch := first|omega|(simp only[ln];omega))) (fun h31 => ?_) (fun h31 => ?_)
        · try simp only [decide_eq_true_eq, decide_eq_false_iff_not] at h31
          have hb : ¬ (gs r i).good = true := by simpa using h31
          refine AWP.seqk fun K15 hK15 => ?_
          refine AWP.region (AOPS.all (by simp (disch := first|omega|(simp only[ln];omega)) [idf_Wd', Sp.av, Sp.cells, Sg.av, Sg.cells]; rfl) ?_)
          refine hK15 _ ?_
          refine AWP.ret ?_
          exact hK _ _ _ _ trivial ((Fin.mk (by simp [aRes, aResL, aRes1, idf_Wd', Sp.av, Sp.cells, Sg.av, Sg.cells]; try rfl)).cast (by rw [rgF_coord h3 h12 (gs_mem hi') hb]))
        · try simp only [decide_eq_true_eq, decide_eq_false_iff_not] at h31
          have hg1 : (gs r i).good = true := by simpa using h31
          refine AWP.skip ?_
          refine hK13 _ ?_
          refine AWP.region (AOPS.all (by simp (disch := first|omega|(simp only[ln];omega)) [idf_Wd', Sp.av, Sp.cells, Sg.av, Sg.cells, g4]; rfl) ?_)
          refine ⟨r.length - (i + 1), by omega, i + 1, rfl, by omega, fun j h => by rcases Nat.lt_succ_iff_lt_or_eq.1 h with h | h; exact hgd j h; rw [h]; exact hg1, by simp (disch := omega) [g1, g3, g4, Hr], by simp (disch := omega) [g1, g3, g4, Hr], by simp (disch := omega) [g1, g3, g4, Hr], by simp (disch := omega) [g1, g3, g4, Hr], by first | omega | (simp; done) | (simp; omega), rfl⟩
      · try simp only [decide_eq_true_eq, decide_eq_false_iff_not] at h22
        have hG : spsGood r := spsGood_of (by omega) hgd
        clear hgd
        refine AWP.exit ?_
        refine hK9 _ ?_
        refine AWP.seqk fun K16 hK16 => ?_
        refine AWP.seqk fun K17 hK17 => ?_
        refine AWP.region (AOPS.all (by simp (disch := first|omega|(simp only[ln];omega)) [idf_Wd', Sp.av, Sp.cells, Sg.av, Sg.cells]; rfl) ?_)
        refine hK17 _ ?_
        refine AWP.block ?_
        
        refine AWP.loop (fun N s => ∃ i : Nat, N = r.length - i ∧ i ≤ r.length ∧ (∀ j k, k < j → j < i → gs r j ≠ gs r k) ∧ s.env 1 = .ptr nx 0 0 ∧ s.env 3 = .int .i64 (r.length : Int) ∧ s.env 5 = .int .i64 (i : Int) ∧ s.heap nx = some (1, [[.isl (r.map Sp.cells)]]) ∧ nx < s.nx ∧ s.nt = 101) (r.length) (⟨0, by omega, by omega, fun j k h h' => by omega, by simp (disch := omega) [g1, g3, Hr], by simp (disch := omega) [g1, g3, Hr], by simp (disch := omega) [g1, g3, Hr], by simp (disch := omega) [g1, g3, Hr], by first | omega | (simp; done) | (simp; omega), rfl⟩) ?_
        clear g1 g3 g4 Hr
        rintro N ⟨e, H, mm, nt⟩ ⟨i, rfl, hi, hnd, g1, g3, g5, Hr, xr, rfl⟩
        simp only [] at g1 g3 g5 Hr xr
        refine AWP.seqk fun K18 hK18 => ?_
        refine AWP.seqk fun K19 hK19 => ?_
        refine AWP.region (AOPS.all (by simp (disch := first|omega|(simp only[ln];omega)) [idf_Wd', Sp.av, Sp.cells, Sg.av, Sg.cells, g3, g5]; rfl) ?_)
        refine hK19 _ ?_
        refine cond_ok _ (by simp (disch := first|omega|(simp only[ln];omega)); rfl) (fun h34 => ?_) (fun h34 => ?_)
        · try simp only [decide_eq_true_eq, decide_eq_false_iff_not] at h34
          have hi' : i < r.length := by omega
          have hat := rg_at hi'
          refine AWP.skip ?_
          refine hK18 _ ?_
          refine AWP.seqk fun K20 hK20 => ?_
          refine AWP.block ?_
          refine AWP.seqk fun K21 hK21 => ?_
          refine AWP.region (AOPS.all (by simp (disch := first|omega|(simp only[ln];omega)) [idf_Wd', Sp.av, Sp.cells, Sg.av, Sg.cells]; rfl) ?_)
          refine hK21 _ ?_
          refine AWP.block ?_
          
          refine AWP.loop (fun N s => ∃ k : Nat, N = i - k ∧ k ≤ i ∧ (∀ k', k' < k → gs r i ≠ gs r k') ∧ s.env 1 = .ptr nx 0 0 ∧ s.env 3 = .int .i64 (r.length : Int) ∧ s.env 5 = .int .i64 (i : Int) ∧ s.env 6 = .int .i64 (k : Int) ∧ s.heap nx = some (1, [[.isl (r.map Sp.cells)]]) ∧ nx < s.nx ∧ s.nt = 101) (i) (⟨0, by omega, by omega, fun j h => by omega, by simp (disch := omega) [g1, g3, g5, Hr], by simp (disch := omega) [g1, g3, g5, Hr], by simp (disch := omega) [g1, g3, g5, Hr], by simp (disch := omega) [g1, g3, g5, Hr], by simp (disch := omega) [g1, g3, g5, Hr], by first | omega | (simp; done) | (simp; omega), rfl⟩) ?_
          clear g1 g3 g5 Hr
          rintro N ⟨e, H, mm, nt⟩ ⟨k, rfl, hk, hk2, g1, g3, g5, g6, Hr, xr, rfl⟩
          simp only [] at g1 g3 g5 g6 Hr xr
          refine AWP.seqk fun K22 hK22 => ?_
          refine AWP.seqk fun K23 hK23 => ?_
          refine AWP.region (AOPS.all (by simp (disch := first|omega|(simp only[ln];omega)) [idf_Wd', Sp.av, Sp.cells, Sg.av, Sg.cells, g5, g6]; rfl) ?_)
          refine hK23 _ ?_
          refine cond_ok _ (by simp (disch := first|omega|(simp only[ln];omega)); rfl) (fun h39 => ?_) (fun h39 => ?_)
          · try simp only [decide_eq_true_eq, decide_eq_false_iff_not] at h39
            have hk' : k < i := by omega
            have hatk := rg_at (show k < r.length by omega)
            refine AWP.skip ?_
            refine hK22 _ ?_
            refine AWP.seqk fun K24 hK24 => ?_
            refine AWP.block ?_
            refine AWP.seqk fun K25 hK25 => ?_
            refine AWP.drawF 11 Try.checked.mixed (by kernel_rfl) (by simp (disch := first|omega|(simp only[ln];omega)) [runDf.eq_def, runF1, runF2, stepF.eq_def, updo.eq_def, hupo.eq_def, opSto1.eq_def, if_pos, idf_Wd', Sp.av, Sp.cells, Sg.av, Sg.cells, g1, g5, g6, Hr, hat, hatk, eqW2, List.length_map]; rfl) ?_
            refine hK25 _ ?_
            refine cond_ok (decide (gs r i = gs r k)) (by simp (disch := first|omega|(simp only[ln];omega))) (fun h52 => ?_) (fun h52 => ?_)
            · try simp only [decide_eq_true_eq, decide_eq_false_iff_not] at h52
              refine AWP.seqk fun K26 hK26 => ?_
              refine AWP.region (AOPS.all (by simp (disch := first|omega|(simp only[ln];omega)) [idf_Wd', Sp.av, Sp.cells, Sg.av, Sg.cells]; rfl) ?_)
              refine hK26 _ ?_
              refine AWP.ret ?_
              exact hK _ _ _ _ trivial ((Fin.mk (by simp [aRes, aResL, aRes1, idf_Wd', Sp.av, Sp.cells, Sg.av, Sg.cells]; try rfl)).cast (by rw [rgF_twice h3 h12 hG ⟨i, k, hk', hi', h52⟩]))
            · try simp only [decide_eq_true_eq, decide_eq_false_iff_not] at h52
              have hne1 := h52
              refine AWP.skip ?_
              refine hK24 _ ?_
              refine AWP.region (AOPS.all (by simp (disch := first|omega|(simp only[ln];omega)) [idf_Wd', Sp.av, Sp.cells, Sg.av, Sg.cells, g6]; rfl) ?_)
              refine ⟨i - (k + 1), by omega, k + 1, rfl, by omega, fun j h => by rcases Nat.lt_succ_iff_lt_or_eq.1 h with h | h; exact hk2 j h; rw [h]; exact hne1, by simp (disch := omega) [g1, g3, g5, g6, Hr], by simp (disch := omega) [g1, g3, g5, g6, Hr], by simp (disch := omega) [g1, g3, g5, g6, Hr], by simp (disch := omega) [g1, g3, g5, g6, Hr], by simp (disch := omega) [g1, g3, g5, g6, Hr], by first | omega | (simp; done) | (simp; omega), rfl⟩
          · try simp only [decide_eq_true_eq, decide_eq_false_iff_not] at h39
            have hn1 : ∀ k', k' < i → gs r i ≠ gs r k' := fun k' h => hk2 k' (by omega)
            refine AWP.exit ?_
            refine hK20 _ ?_
            refine AWP.region (AOPS.all (by simp (disch := first|omega|(simp only[ln];omega)) [idf_Wd', Sp.av, Sp.cells, Sg.av, Sg.cells, g5]; rfl) ?_)
            refine ⟨r.length - (i + 1), by omega, i + 1, rfl, by omega, fun j k h h' => by rcases Nat.lt_succ_iff_lt_or_eq.1 h' with h' | h'; exact hnd j k h h'; rw [h']; exact hn1 k (by omega), by simp (disch := omega) [g1, g3, g5, Hr], by simp (disch := omega) [g1, g3, g5, Hr], by simp (disch := omega) [g1, g3, g5, Hr], by simp (disch := omega) [g1, g3, g5, Hr], by first | omega | (simp; done) | (simp; omega), rfl⟩
        · try simp only [decide_eq_true_eq, decide_eq_false_iff_not] at h34
          have hD : ¬ rgDup r := by rintro ⟨j, k, q1, q2, q3⟩; exact hnd j k q1 (by omega) q3
          clear hnd
          refine AWP.exit ?_
          refine hK16 _ ?_
          refine AWP.seqk fun K27 hK27 => ?_
          refine AWP.seqk fun K28 hK28 => ?_
          refine AWP.region (AOPS.all (by simp (disch := first|omega|(simp only[ln];omega)) [idf_Wd', Sp.av, Sp.cells, Sg.av, Sg.cells]; rfl) ?_)
          refine hK28 _ ?_
          refine AWP.block ?_
          
          refine AWP.loop (fun N s => ∃ i : Nat, N = r.length - i ∧ i ≤ r.length ∧ (∀ j k, k < j → j < i → ¬ badS r j k) ∧ s.env 1 = .ptr nx 0 0 ∧ s.env 3 = .int .i64 (r.length : Int) ∧ s.env 7 = .int .i64 (i : Int) ∧ s.heap nx = some (1, [[.isl (r.map Sp.cells)]]) ∧ nx < s.nx ∧ s.nt = 101) (r.length) (⟨0, by omega, by omega, fun j k h h' => by omega, by simp (disch := omega) [g1, g3, Hr], by simp (disch := omega) [g1, g3, Hr], by simp (disch := omega) [g1, g3, Hr], by simp (disch := omega) [g1, g3, Hr], by first | omega | (simp; done) | (simp; omega), rfl⟩) ?_
          clear g1 g3 g5 Hr
          rintro N ⟨e, H, mm, nt⟩ ⟨i, rfl, hi, hok, g1, g3, g7, Hr, xr, rfl⟩
          simp only [] at g1 g3 g7 Hr xr
          refine AWP.seqk fun K29 hK29 => ?_
          refine AWP.seqk fun K30 hK30 => ?_
          refine AWP.region (AOPS.all (by simp (disch := first|omega|(simp only[ln];omega)) [idf_Wd', Sp.av, Sp.cells, Sg.av, Sg.cells, g3, g7]; rfl) ?_)
          refine hK30 _ ?_
          refine cond_ok _ (by simp (disch := first|omega|(simp only[ln];omega)); rfl) (fun h55 => ?_) (fun h55 => ?_)
          · try simp only [decide_eq_true_eq, decide_eq_false_iff_not] at h55
            have hi' : i < r.length := by omega
            have gi := sd_good (by omega) hG hD hi'
            refine AWP.skip ?_
            refine hK29 _ ?_
            refine AWP.seqk fun K31 hK31 => ?_
            refine AWP.block ?_
            refine AWP.seqk fun K32 hK32 => ?_
            refine AWP.region (AOPS.all (by simp (disch := first|omega|(simp only[ln];omega)) [idf_Wd', Sp.av, Sp.cells, Sg.av, Sg.cells]; rfl) ?_)
            refine hK32 _ ?_
            refine AWP.block ?_
            
            refine AWP.loop (fun N s => ∃ k : Nat, N = i - k ∧ k ≤ i ∧ (∀ k', k' < k → ¬ badS r i k') ∧ s.env 1 = .ptr nx 0 0 ∧ s.env 3 = .int .i64 (r.length : Int) ∧ s.env 7 = .int .i64 (i : Int) ∧ s.env 8 = .int .i64 (k : Int) ∧ s.heap nx = some (1, [[.isl (r.map Sp.cells)]]) ∧ nx < s.nx ∧ s.nt = 101) (i) (⟨0, by omega, by omega, fun j h => by omega, by simp (disch := omega) [g1, g3, g7, Hr], by simp (disch := omega) [g1, g3, g7, Hr], by simp (disch := omega) [g1, g3, g7, Hr], by simp (disch := omega) [g1, g3, g7, Hr], by simp (disch := omega) [g1, g3, g7, Hr], by first | omega | (simp; done) | (simp; omega), rfl⟩) ?_
            clear g1 g3 g7 Hr
            rintro N ⟨e, H, mm, nt⟩ ⟨k, rfl, hk, hk2, g1, g3, g7, g8, Hr, xr, rfl⟩
            simp only [] at g1 g3 g7 g8 Hr xr
            refine AWP.seqk fun K33 hK33 => ?_
            refine AWP.seqk fun K34 hK34 => ?_
            refine AWP.region (AOPS.all (by simp (disch := first|omega|(simp only[ln];omega)) [idf_Wd', Sp.av, Sp.cells, Sg.av, Sg.cells, g7, g8]; rfl) ?_)
            refine hK34 _ ?_
            refine cond_ok _ (by simp (disch := first|omega|(simp only[ln];omega)); rfl) (fun h60 => ?_) (fun h60 => ?_)
            · try simp only [decide_eq_true_eq, decide_eq_false_iff_not] at h60
              have hk' : k < i := by omega
              have hki : k < r.length := by omega
              have gk := sd_good (by omega) hG hD hki
              have hmt := l4Meet_fc (sd r i) (sd r k) gi gk
              obtain ⟨b1, b2, b3, c1, c2, c3, s1, s2, s3, t1, t2, t3, h4V, ones⟩ := l4V_k gi gk
              obtain ⟨o1, o2, o3, o4, o5, o6⟩ := ones
              rw [h4V] at hmt
              obtain ⟨M, hM⟩ : ∃ M, meetI (sd r i) (sd r k) = M := ⟨_, rfl⟩
              rw [hM] at hmt
              have hbd : badS r i k ↔ ((nxt r.length i k ∧ M.1 ≠ 1) ∨ (¬ nxt r.length i k ∧ M.1 ≠ 0)) := by have := bad_iff (by omega) hG hD hk' hi'; unfold badS; rw [this]; unfold mkd; rw [hM]
              refine AWP.skip ?_
              refine hK33 _ ?_
              refine AWP.seqk fun K35 hK35 => ?_
              refine AWP.block ?_
              refine AWP.seqk fun K36 hK36 => ?_
              refine AWP.old fun hold => ?_
              refine AWP.draw 13 Try.checked.mixed (by kernel_rfl) (by simp) ?_
              simp only [List.take_succ_cons, List.take_zero, List.drop_succ_cons, List.drop_zero]
              refine DP.runFk 2 (by simp (disch := first|omega|(simp only[ln];omega)) [runDf.eq_def, runF1, runF2, stepF.eq_def, updo.eq_def, hupo.eq_def, opSto1.eq_def, List.take_succ_cons, List.take_zero, idf_Wd', Sp.av, Sp.cells, Sg.av, Sg.cells, g1, g7, g8, Hr, o1, o2, o3, o4, o5, o6]; rfl) fun fs37 hfs37 => ?_
              replace hfs37 : fs37.length = 2 := hfs37.trans rfl
              simp only [List.drop_succ_cons, List.drop_zero]
              refine DP.fcall (l5Side_fc r i hi' hl) rfl rfl rfl hb115 (by simp (disch := first|omega|(simp only[ln];omega)) [idf_Wd', g1, g7, g8, Hr, o1, o2, o3, o4, o5, o6, Sp.av, Sp.cells, Sg.av, Sg.cells]) (by simp (disch := first|omega|(simp only[ln];omega)) [g1, g7, g8, Hr, o1, o2, o3, o4, o5, o6]) (by simp) ?_
              simp only [updo]
              refine DP.runFk 2 (by simp (disch := first|omega|(simp only[ln];omega)) [runDf.eq_def, runF1, runF2, stepF.eq_def, updo.eq_def, hupo.eq_def, opSto1.eq_def, List.take_succ_cons, List.take_zero, idf_Wd', Sp.av, Sp.cells, Sg.av, Sg.cells, g1, g7, g8, Hr, o1, o2, o3, o4, o5, o6]; rfl) fun fs38 hfs38 => ?_
              replace hfs38 : fs38.length = 2 := hfs38.trans rfl
              simp only [List.drop_succ_cons, List.drop_zero]
              refine DP.fcall (l5Side_fc r k hki hl) rfl rfl rfl hb115 (by simp (disch := first|omega|(simp only[ln];omega)) [idf_Wd', g1, g7, g8, Hr, o1, o2, o3, o4, o5, o6, Sp.av, Sp.cells, Sg.av, Sg.cells]) (by simp (disch := first|omega|(simp only[ln];omega)) [g1, g7, g8, Hr, o1, o2, o3, o4, o5, o6]) (by simp) ?_
              simp only [updo]
              refine DP.fcall (hmt) rfl rfl rfl hb95 (by simp (disch := first|omega|(simp only[ln];omega)) [idf_Wd', g1, g7, g8, Hr, o1, o2, o3, o4, o5, o6, Sp.av, Sp.cells, Sg.av, Sg.cells]) (by simp (disch := first|omega|(simp only[ln];omega)) [g1, g7, g8, Hr, o1, o2, o3, o4, o5, o6]) (by simp) ?_
              simp only [updo]
              refine DP.runFk 3 (by simp (disch := first|omega|(simp only[ln];omega)) [runDf.eq_def, runF1, runF2, stepF.eq_def, updo.eq_def, hupo.eq_def, opSto1.eq_def, List.take_succ_cons, List.take_zero, idf_Wd', Sp.av, Sp.cells, Sg.av, Sg.cells, g1, g7, g8, Hr, o1, o2, o3, o4, o5, o6]; rfl) fun fs39 hfs39 => ?_
              replace hfs39 : fs39.length = 3 := hfs39.trans rfl
              simp only [List.drop_succ_cons, List.drop_zero]
              refine DP.runF1q (by simp (disch := first|omega|(simp only[ln];omega)) [runDf.eq_def, runF1, runF2, stepF.eq_def, updo.eq_def, hupo.eq_def, opSto1.eq_def, idf_Wd', Sp.av, Sp.cells, Sg.av, Sg.cells, g1, g7, g8, Hr, o1, o2, o3, o4, o5, o6]; rfl) fun fq40 hfq40 => ?_
              simp [qids, asksB, Op.operands, topId] at hfq40
              simp only [updo]
              refine DP.runFk 2 (by simp (disch := first|omega|(simp only[ln];omega)) [runDf.eq_def, runF1, runF2, stepF.eq_def, updo.eq_def, hupo.eq_def, opSto1.eq_def, List.take_succ_cons, List.take_zero, idf_Wd', Sp.av, Sp.cells, Sg.av, Sg.cells, g1, g7, g8, Hr, o1, o2, o3, o4, o5, o6]; rfl) fun fs41 hfs41 => ?_
              replace hfs41 : fs41.length = 2 := hfs41.trans rfl
              simp only [List.drop_succ_cons, List.drop_zero]
              refine DQ.asg1 _ rfl rfl ?_
              simp only [updo]
              refine DQ.sto1 (m := 13) [10] _ (by simp (disch := first|omega|(simp only[ln];omega)) [runDf.eq_def, runF1, runF2, stepF.eq_def, updo.eq_def, hupo.eq_def, opSto1.eq_def, idf_Wd', Sp.av, Sp.cells, Sg.av, Sg.cells, g1, g7, g8, Hr, o1, o2, o3, o4, o5, o6]; rfl) rfl (by simp only [List.length_append, List.length_cons, List.length_nil, hfs37, hfs38, hfs39, hfs41]; omega) (by kernel_rfl) (by intro k f hk hex; simp only [List.mem_cons, List.not_mem_nil, or_false] at hex; rcases hex with rfl <;> (simp [List.getElem?_append, hfs37, hfs38, hfs39, hfs41] at hk; subst hk; refine ⟨?_, by first | omega | (simp; done) | (simp; omega)⟩; simp [qids, asksB, Op.operands, Call.operands, topId, numS, numI, Wd, hfq40, g1, g7, g8]; try omega)) ?_
              try simp only []
              refine DQ.sto1 (m := 13) [] _ (by simp (disch := first|omega|(simp only[ln];omega)) [runDf.eq_def, runF1, runF2, stepF.eq_def, updo.eq_def, hupo.eq_def, opSto1.eq_def, idf_Wd', Sp.av, Sp.cells, Sg.av, Sg.cells, g1, g7, g8, Hr, o1, o2, o3, o4, o5, o6]; rfl) rfl (by simp only [List.length_append, List.length_cons, List.length_nil, hfs37, hfs38, hfs39, hfs41]; omega) (by kernel_rfl) (by intro k f hk hex; simp only [List.not_mem_nil] at hex) ?_
              try simp only []
              refine hK36 _ ?_
              refine AWP.seqk fun K42 hK42 => ?_
              have J42 : ∀ s : St, (∃ nb : Bool, (nb = true ↔ nxt r.length i k) ∧ s.env 1 = .ptr nx 0 0 ∧ s.env 3 = .int .i64 (r.length : Int) ∧ s.env 7 = .int .i64 (i : Int) ∧ s.env 8 = .int .i64 (k : Int) ∧ s.env 9 = .int .i64 (M.1 : Int) ∧ s.env 12 = .bool nb ∧ s.heap nx = some (1, [[.isl (r.map Sp.cells)]]) ∧ nx < s.nx ∧ s.nt = 101) → K42 s := by
                clear g1 g3 g7 g8 Hr xr
                rintro ⟨e, H, mm, nt⟩ ⟨nb, hnb, g1, g3, g7, g8, g9, g12, Hr, xr, rfl⟩
                simp only [] at g1 g3 g7 g8 g9 g12 Hr xr
                refine hK42 _ ?_
                refine AWP.seqk fun K43 hK43 => ?_
                cases hnbv : nb
                · have hnn : ¬ nxt r.length i k := fun h => by have := hnb.2 h; rw [hnbv] at this; simp at this
                  refine AWP.region (AOPS.all (by simp (disch := first|omega|(simp only[ln];omega)) [idf_Wd', Sp.av, Sp.cells, Sg.av, Sg.cells, g9, g12, hnbv]; rfl) ?_)
                  refine hK43 _ ?_
                  refine cond_ok (M.1 != 0) (by simp (disch := first|omega|(simp only[ln];omega)) [bne]) (fun h100 => ?_) (fun h100 => ?_)
                  · try simp only [decide_eq_true_eq, decide_eq_false_iff_not] at h100
                    have m0 : M.1 ≠ 0 := by simpa using h100
                    have hbad : badS r i k := hbd.2 (.inr ⟨hnn, m0⟩)
                    refine AWP.seqk fun K44 hK44 => ?_
                    refine AWP.region (AOPS.all (by simp (disch := first|omega|(simp only[ln];omega)) [idf_Wd', Sp.av, Sp.cells, Sg.av, Sg.cells]; rfl) ?_)
                    refine hK44 _ ?_
                    refine AWP.ret ?_
                    exact hK _ _ _ _ trivial ((Fin.mk (by simp [aRes, aResL, aRes1, idf_Wd', Sp.av, Sp.cells, Sg.av, Sg.cells]; try rfl)).cast (by rw [rgF_cross h3 h12 hG hD ⟨i, k, hk', hi', hbad⟩]))
                  · try simp only [decide_eq_true_eq, decide_eq_false_iff_not] at h100
                    have m0 : M.1 = 0 := by simpa using h100
                    have hnbad : ¬ badS r i k := fun h => by rcases hbd.1 h with h | h; exact hnn h.1; exact h.2 m0
                    refine AWP.skip ?_
                    refine hK35 _ ?_
                    refine AWP.region (AOPS.all (by simp (disch := first|omega|(simp only[ln];omega)) [idf_Wd', Sp.av, Sp.cells, Sg.av, Sg.cells, g8]; rfl) ?_)
                    refine ⟨i - (k + 1), by omega, k + 1, rfl, by omega, fun j h => by rcases Nat.lt_succ_iff_lt_or_eq.1 h with h | h; exact hk2 j h; rw [h]; exact hnbad, by simp (disch := omega) [g1, g3, g7, g8, Hr], by simp (disch := omega) [g1, g3, g7, g8, Hr], by simp (disch := omega) [g1, g3, g7, g8, Hr], by simp (disch := omega) [g1, g3, g7, g8, Hr], by simp (disch := omega) [g1, g3, g7, g8, Hr], by first | omega | (simp; done) | (simp; omega), rfl⟩
                · have hnn := hnb.1 hnbv
                  by_cases m1 : M.1 = 1
                  · have d1 : (M.1 != 1) = false := by simp [m1]
                    refine AWP.region (AOPS.all (by simp (disch := first|omega|(simp only[ln];omega)) [idf_Wd', Sp.av, Sp.cells, Sg.av, Sg.cells, g9, g12, hnbv, d1]; rfl) ?_)
                    refine hK43 _ ?_
                    refine cond_ok _ (by simp (disch := first|omega|(simp only[ln];omega)); rfl) (fun h100 => ?_) (fun h100 => ?_)
                    · simp at h100
                    · try simp only [decide_eq_true_eq, decide_eq_false_iff_not] at h100
                      have hnbad : ¬ badS r i k := fun h => by rcases hbd.1 h with h | h; exact h.2 m1; exact h.1 hnn
                      refine AWP.skip ?_
                      refine hK35 _ ?_
                      refine AWP.region (AOPS.all (by simp (disch := first|omega|(simp only[ln];omega)) [idf_Wd', Sp.av, Sp.cells, Sg.av, Sg.cells, g8]; rfl) ?_)
                      refine ⟨i - (k + 1), by omega, k + 1, rfl, by omega, fun j h => by rcases Nat.lt_succ_iff_lt_or_eq.1 h with h | h; exact hk2 j h; rw [h]; exact hnbad, by simp (disch := omega) [g1, g3, g7, g8, Hr], by simp (disch := omega) [g1, g3, g7, g8, Hr], by simp (disch := omega) [g1, g3, g7, g8, Hr], by simp (disch := omega) [g1, g3, g7, g8, Hr], by simp (disch := omega) [g1, g3, g7, g8, Hr], by first | omega | (simp; done) | (simp; omega), rfl⟩
                  · have d1 : (M.1 != 1) = true := by simp [m1]
                    refine AWP.region (AOPS.all (by simp (disch := first|omega|(simp only[ln];omega)) [idf_Wd', Sp.av, Sp.cells, Sg.av, Sg.cells, g9, g12, hnbv, d1]; rfl) ?_)
                    refine hK43 _ ?_
                    refine cond_ok _ (by simp (disch := first|omega|(simp only[ln];omega)); rfl) (fun h100 => ?_) (fun h100 => ?_)
                    · try simp only [decide_eq_true_eq, decide_eq_false_iff_not] at h100
                      have hbad : badS r i k := hbd.2 (.inl ⟨hnn, m1⟩)
                      refine AWP.seqk fun K45 hK45 => ?_
                      refine AWP.region (AOPS.all (by simp (disch := first|omega|(simp only[ln];omega)) [idf_Wd', Sp.av, Sp.cells, Sg.av, Sg.cells]; rfl) ?_)
                      refine hK45 _ ?_
                      refine AWP.ret ?_
                      exact hK _ _ _ _ trivial ((Fin.mk (by simp [aRes, aResL, aRes1, idf_Wd', Sp.av, Sp.cells, Sg.av, Sg.cells]; try rfl)).cast (by rw [rgF_cross h3 h12 hG hD ⟨i, k, hk', hi', hbad⟩]))
                    · simp at h100
              by_cases q1 : (k : Int) = (i : Int) - 1
              · have c1 : ((k : Int) == (i : Int) - 1) = true := by simp [q1]
                refine AWP.region (AOPS.all (by simp (disch := first|omega|(simp only[ln];omega)) [idf_Wd', Sp.av, Sp.cells, Sg.av, Sg.cells, g1, g3, g7, g8, Hr, c1]; rfl) ?_)
                refine J42 _ ?_
                exact ⟨true, ⟨fun _ => .inl (by omega), fun _ => rfl⟩, by simp (disch := omega) [g1, g3, g7, g8, Hr], by simp (disch := omega) [g1, g3, g7, g8, Hr], by simp (disch := omega) [g1, g3, g7, g8, Hr], by simp (disch := omega) [g1, g3, g7, g8, Hr], by simp (disch := omega) [g1, g3, g7, g8, Hr], by simp (disch := omega) [g1, g3, g7, g8, Hr], by simp (disch := omega) [g1, g3, g7, g8, Hr], by first | omega | (simp; done) | (simp; omega), rfl⟩
              · have c1 : ((k : Int) == (i : Int) - 1) = false := by simp [q1]
                by_cases q2 : k = 0
                · have c2 : ((k : Int) == 0) = true := by simp [q2]
                  have c2' : (k == 0) = true := by simp [q2]
                  by_cases q3 : (i : Int) = (r.length : Int) - 1
                  · have c3 : ((i : Int) == (r.length : Int) - 1) = true := by simp [q3]
                    refine AWP.region (AOPS.all (by simp (disch := first|omega|(simp only[ln];omega)) [idf_Wd', Sp.av, Sp.cells, Sg.av, Sg.cells, g1, g3, g7, g8, Hr, c1, c2, c2', c3]; rfl) ?_)
                    refine J42 _ ?_
                    exact ⟨true, ⟨fun _ => .inr ⟨by omega, by omega⟩, fun _ => rfl⟩, by simp (disch := omega) [g1, g3, g7, g8, Hr], by simp (disch := omega) [g1, g3, g7, g8, Hr], by simp (disch := omega) [g1, g3, g7, g8, Hr], by simp (disch := omega) [g1, g3, g7, g8, Hr], by simp (disch := omega) [g1, g3, g7, g8, Hr], by simp (disch := omega) [g1, g3, g7, g8, Hr], by simp (disch := omega) [g1, g3, g7, g8, Hr], by first | omega | (simp; done) | (simp; omega), rfl⟩
                  · have c3 : ((i : Int) == (r.length : Int) - 1) = false := by simp [q3]
                    refine AWP.region (AOPS.all (by simp (disch := first|omega|(simp only[ln];omega)) [idf_Wd', Sp.av, Sp.cells, Sg.av, Sg.cells, g1, g3, g7, g8, Hr, c1, c2, c2', c3]; rfl) ?_)
                    refine J42 _ ?_
                    exact ⟨false, ⟨fun h => by simp at h, fun h => by rcases h with h | ⟨h, h'⟩ <;> omega⟩, by simp (disch := omega) [g1, g3, g7, g8, Hr], by simp (disch := omega) [g1, g3, g7, g8, Hr], by simp (disch := omega) [g1, g3, g7, g8, Hr], by simp (disch := omega) [g1, g3, g7, g8, Hr], by simp (disch := omega) [g1, g3, g7, g8, Hr], by simp (disch := omega) [g1, g3, g7, g8, Hr], by simp (disch := omega) [g1, g3, g7, g8, Hr], by first | omega | (simp; done) | (simp; omega), rfl⟩
                · have c2 : ((k : Int) == 0) = false := by simp; omega
                  have c2' : (k == 0) = false := by simp; omega
                  refine AWP.region (AOPS.all (by simp (disch := first|omega|(simp only[ln];omega)) [idf_Wd', Sp.av, Sp.cells, Sg.av, Sg.cells, g1, g3, g7, g8, Hr, c1, c2, c2']; rfl) ?_)
                  refine J42 _ ?_
                  exact ⟨false, ⟨fun h => by simp at h, fun h => by rcases h with h | ⟨h, h'⟩ <;> omega⟩, by simp (disch := omega) [g1, g3, g7, g8, Hr], by simp (disch := omega) [g1, g3, g7, g8, Hr], by simp (disch := omega) [g1, g3, g7, g8, Hr], by simp (disch := omega) [g1, g3, g7, g8, Hr], by simp (disch := omega) [g1, g3, g7, g8, Hr], by simp (disch := omega) [g1, g3, g7, g8, Hr], by simp (disch := omega) [g1, g3, g7, g8, Hr], by first | omega | (simp; done) | (simp; omega), rfl⟩
            · try simp only [decide_eq_true_eq, decide_eq_false_iff_not] at h60
              have hn1 : ∀ k', k' < i → ¬ badS r i k' := fun k' h => hk2 k' (by omega)
              refine AWP.exit ?_
              refine hK31 _ ?_
              refine AWP.region (AOPS.all (by simp (disch := first|omega|(simp only[ln];omega)) [idf_Wd', Sp.av, Sp.cells, Sg.av, Sg.cells, g7]; rfl) ?_)
              refine ⟨r.length - (i + 1), by omega, i + 1, rfl, by omega, fun j k h h' => by rcases Nat.lt_succ_iff_lt_or_eq.1 h' with h' | h'; exact hok j k h h'; rw [h']; exact hn1 k (by omega), by simp (disch := omega) [g1, g3, g7, Hr], by simp (disch := omega) [g1, g3, g7, Hr], by simp (disch := omega) [g1, g3, g7, Hr], by simp (disch := omega) [g1, g3, g7, Hr], by first | omega | (simp; done) | (simp; omega), rfl⟩
          · try simp only [decide_eq_true_eq, decide_eq_false_iff_not] at h55
            have hX : ¬ rgX r := by rintro ⟨j, k, q1, q2, q3⟩; exact hok j k q1 (by omega) q3
            refine AWP.exit ?_
            refine hK27 _ ?_
            refine AWP.seqk fun K46 hK46 => ?_
            refine AWP.region (AOPS.all (by simp (disch := first|omega|(simp only[ln];omega)) [idf_Wd', Sp.av, Sp.cells, Sg.av, Sg.cells]; rfl) ?_)
            refine hK46 _ ?_
            refine AWP.ret ?_
            exact hK _ _ _ _ trivial ((Fin.mk (by simp [aRes, aResL, aRes1, idf_Wd', Sp.av, Sp.cells, Sg.av, Sg.cells]; try rfl)).cast (by rw [rgF_ok h3 h12 hG hD hX]))

theorem l5Ok_fc (r : List Sp) (hl : r.length ≤ 1099511627776) : FC Try.prog 149 [.agg [.isl (r.map Sp.cells)]] (.bool (decide (rgF r = 0))) := by
  refine FC.body Try.func149 rfl (by simp [idfL, idf, idfLL_iff, Sp.av, Sp.cells, Sg.av, Sg.cells]) (by simp [idfL, idf, idfLL_iff, idf_Wd', Sp.av, Sp.cells, Sg.av, Sg.cells]) 6 rfl fun nx K hK => ?_
  refine AWP.seqk fun K1 hK1 => ?_
  refine AWP.region (AOPS.all (by simp (disch := first|omega|(simp only[ln];omega)) [idf_Wd', Sp.av, Sp.cells, Sg.av, Sg.cells]; rfl) ?_)
  refine hK1 _ ?_
  refine AWP.seqk fun K2 hK2 => ?_
  refine AWP.region ?_
  refine AOPS.runk 1 (by simp (disch := first|omega|(simp only[ln];omega)) [List.take_succ_cons, List.take_zero, idf_Wd', Sp.av, Sp.cells, Sg.av, Sg.cells]; rfl) ?_
  simp only [List.drop_succ_cons, List.drop_zero]
  refine AOPS.fcall (ringFaultS_fc r hl) rfl rfl rfl hb36 (by simp (disch := first|omega|(simp only[ln];omega)) [idf_Wd', Sp.av, Sp.cells, Sg.av, Sg.cells]) (by simp (disch := first|omega|(simp only[ln];omega))) (by simp) ?_
  simp only [puts_some, updo]
  refine AOPS.all (by simp (disch := first|omega|(simp only[ln];omega)) [idf_Wd', Sp.av, Sp.cells, Sg.av, Sg.cells]; rfl) ?_
  refine hK2 _ ?_
  refine AWP.ret ?_
  exact hK _ _ _ _ trivial ((Fin.mk (by simp [aRes, aResL, aRes1, idf_Wd', Sp.av, Sp.cells, Sg.av, Sg.cells]; try rfl)).cast (by rw [beqdI]))

end Go.Proofs.Ytmaebeknmiomnaa

/- Walks: FnExactRingFault, FnExactRingArea2, FnExactRingsMeet, walked. -/
namespace Go.Proofs.Ytmaebeknmiomnaa
open Go Go.RowKit
set_option linter.unusedSimpArgs false
set_option linter.unusedVariables false
set_option maxRecDepth 100000
attribute [local simp] List.getElem?_cons_zero List.getElem?_cons_succ List.getElem?_toArray runOps stepOp.eq_def agd.eq_def dstOk.eq_def opVal.eq_def opNew.eq_def opSto.eq_def ev.eq_def cv.eq_def puts_some puts_none upd_ap lst.eq_def aBin.eq_def aUn.eq_def aBi_str aBi_isl aBi_osl aBi_nsl aBi_max aBi_min aBi_max3 aConv.eq_def aLd.eq_def aLoad.eq_def aField.eq_def aFld.eq_def aIdx_isl aIdx_osl aSlc_isl aSlc_osl aSlc_str aSlc_nsl bnd.eq_def evs_nil evs_cons aBuild.eq_def aFill splice.eq_def cells_agg cells_int cells_bool cells_str cells_nil cells_nsl cells_isl cells_osl cells_ptr cells_ip cells_fn cells_Wd one_int one_bool one_str one_nil one_nsl one_isl one_osl one_ptr one_ip one_fn one_Wd aSets hupd_eq hupd_ne wrap_i64s wrap_u64s wrap_u32s wrap_u8s wd_getD wd_set wd_len wd_replicate wd_one wd_fold fz_osl hupd_same aSix.eq_def aEqS.eq_def aEqB_bool aEqB_nsl aEqB_nil
attribute [local simp] szT2 byT2 agT2 unT2 zoT2 szT3 byT3 agT3 unT3 zoT3 szT4 byT4 agT4 unT4 zoT4 szT55 byT55 agT55 elT55 unT55 zoT55 szT57 byT57 agT57 flT57 fdT57_0 zoT57 szT60 byT60 agT60 elT60 unT60 zoT60 szT62 byT62 agT62 flT62 fdT62_0 zoT62 szT67 byT67 agT67 flT67 fdT67_0 fdT67_1 zoT67 szT134 byT134 agT134 flT134 fdT134_0 fdT134_1 zoT134

def szN (len : Nat) (n : Int) : Int := if n - len < 0 then -1 else n - len
theorem szN_le {k : Nat} {n : Int} (h : ¬ szN k n < 0) : (k : Int) ≤ n ∧ szN k n = n - k := by unfold szN at *; split at h <;> simp_all; omega

theorem szSpotS_fc (l : List Sp) (n : Int) (h0 : 0 ≤ n) (h1 : n ≤ 9223372036854775807) (hl : l.length ≤ 9223372036854775807) : FC Try.prog 113 [.isl (l.map Sp.cells), .int .i64 n] (.int .i64 (szN l.length n)) := by
  refine FC.body Try.func113 rfl (by simp [idfL, idf, idfLL_iff, Sp.av, Sp.cells, Sg.av, Sg.cells]) (by simp [idfL, idf, idfLL_iff, idf_Wd', Sp.av, Sp.cells, Sg.av, Sg.cells]) 12 rfl fun nx K hK => ?_
  refine AWP.seqk fun K1 hK1 => ?_
  refine AWP.region (AOPS.all (by simp (disch := first|omega|(simp only[ln];omega)) [idf_Wd', Sp.av, Sp.cells, Sg.av, Sg.cells]; rfl) ?_)
  refine hK1 _ ?_
  refine AWP.seqk fun K2 hK2 => ?_
  refine AWP.region (AOPS.all (by simp (disch := first|omega|(simp only[ln];omega)) [idf_Wd', Sp.av, Sp.cells, Sg.av, Sg.cells, List.length_map]; rfl) ?_)
  refine hK2 _ ?_
  refine AWP.seqk fun K3 hK3 => ?_
  refine AWP.seqk fun K4 hK4 => ?_
  refine AWP.region (AOPS.all (by simp (disch := first|omega|(simp only[ln];omega)) [idf_Wd', Sp.av, Sp.cells, Sg.av, Sg.cells]; rfl) ?_)
  refine hK4 _ ?_
  refine cond_ok (decide (n - (l.length : Int) < 0)) (by simp (disch := first|omega|(simp only[ln];omega))) (fun h10 => ?_) (fun h10 => ?_)
  · try simp only [decide_eq_true_eq, decide_eq_false_iff_not] at h10
    refine AWP.seqk fun K5 hK5 => ?_
    refine AWP.region (AOPS.all (by simp (disch := first|omega|(simp only[ln];omega)) [idf_Wd', Sp.av, Sp.cells, Sg.av, Sg.cells]; rfl) ?_)
    refine hK5 _ ?_
    refine AWP.ret ?_
    exact hK _ _ _ _ trivial ((Fin.mk (by simp [aRes, aResL, aRes1, idf_Wd', Sp.av, Sp.cells, Sg.av, Sg.cells]; try rfl)).cast (by unfold szN; rw [if_pos h10]))
  · try simp only [decide_eq_true_eq, decide_eq_false_iff_not] at h10
    refine AWP.skip ?_
    refine hK3 _ ?_
    refine AWP.seqk fun K6 hK6 => ?_
    refine AWP.region (AOPS.all (by simp (disch := first|omega|(simp only[ln];omega)) [idf_Wd', Sp.av, Sp.cells, Sg.av, Sg.cells]; rfl) ?_)
    refine hK6 _ ?_
    refine AWP.ret ?_
    exact hK _ _ _ _ trivial ((Fin.mk (by simp [aRes, aResL, aRes1, idf_Wd', Sp.av, Sp.cells, Sg.av, Sg.cells]; try rfl)).cast (by unfold szN; rw [if_neg h10]))

set_option maxHeartbeats 1000000 in
theorem toSpotS_fc (l : List Sp) (hl : l.length ≤ 1048576) : FC Try.prog 116 [.isl (l.map Sp.cells)] (.isl (l.map Sp.cells)) := by
  refine FC.body Try.func116 rfl (by simp [idfL, idf, idfLL_iff, Sp.av, Sp.cells, Sg.av, Sg.cells]) (by simp [idf, idfL, idfLL_iff, Sp.cells, Sg.cells]) 23 rfl fun nx K hK => ?_
  refine AWP.seqk fun K1 hK1 => ?_
  refine AWP.region (AOPS.all (by simp (disch := first|omega|(simp only[ln];omega)) [idf_Wd']; rfl) ?_)
  refine hK1 _ ?_
  refine AWP.seqk fun K2 hK2 => ?_
  refine AWP.region (AOPS.all (by simp (disch := first|omega|(simp only[ln];omega)) [if_pos, idf_Wd', List.length_map]; rfl) ?_)
  refine hK2 _ ?_
  refine AWP.seqk fun K3 hK3 => ?_
  refine AWP.seqk fun K4 hK4 => ?_
  refine AWP.region (AOPS.all (by simp (disch := first|omega|(simp only[ln];omega)) [idf_Wd']; rfl) ?_)
  refine hK4 _ ?_
  refine AWP.block ?_
  refine AWP.loop (fun N s => ∃ i id : Nat, N = l.length - i ∧ i ≤ l.length ∧ s.env 0 = .isl (l.map Sp.cells) ∧ s.env 3 = .osl id 0 l.length ∧ s.env 4 = .int .i64 (i : Int) ∧ s.heap id = some (2, fillR Sp.cells [.int .i64 0, .int .i64 0] l i) ∧ s.nt = 23) (l.length) (⟨0, nx, by omega, by omega, by simp, by simp, by simp, by simp [← fillR_zero], rfl⟩) ?_
  rintro N ⟨e, H, mm, nt⟩ ⟨i, id, rfl, hi, h0, h3, h4, hH, rfl⟩
  simp only [] at h0 h3 h4 hH
  refine AWP.seqk fun K5 hK5 => ?_
  refine AWP.seqk fun K6 hK6 => ?_
  refine AWP.region (AOPS.all (by simp (disch := first|omega|(simp only[ln];omega)) [idf_Wd', h0, h4, List.length_map]; rfl) ?_)
  refine hK6 _ ?_
  refine cond_ok _ (by simp (disch := first|omega|(simp only[ln];omega)); rfl) (fun h11 => ?_) (fun h11 => ?_)
  · try simp only [decide_eq_true_eq, decide_eq_false_iff_not] at h11
    have hi' : i < l.length := by omega
    obtain ⟨p, hpi⟩ : ∃ p, l[i]? = some p := ⟨l[i], by simp [hi']⟩
    have hpm : (l.map Sp.cells)[i]? = some p.cells := by rw [List.getElem?_map, hpi]; rfl
    have fst := fillR_set Sp.cells [.int .i64 0, .int .i64 0] l hpi
    simp only [Sp.cells] at fst
    have fl := fillR_len Sp.cells [.int .i64 0, .int .i64 0] l hi
    have fg := fillR_getE Sp.cells [.int .i64 0, .int .i64 0] l hi'
    refine AWP.skip ?_
    refine hK5 _ ?_
    refine AWP.seqk fun K7 hK7 => ?_
    refine AWP.block ?_
    refine AWP.region ?_
    refine AOPS.runk 6 (by simp (disch := first|omega|(simp only[ln];omega)) [List.take_succ_cons, List.take_zero, if_pos, idf_Wd', h0, h3, h4, hH, fl, fg, hpm, Sp.cells, Sg.cells, Sp.av, Sg.av, List.length_map]; rfl) ?_
    simp only [List.drop_succ_cons, List.drop_zero]
    refine AOPS.fcall (toSpot_fc p) rfl rfl rfl hb184 (by simp (disch := first|omega|(simp only[ln];omega)) [idf_Wd', h0, h3, h4, hH, fl, fg, hpm, Sp.cells, Sg.cells, Sp.av, Sg.av, List.length_map]) (by simp (disch := first|omega|(simp only[ln];omega)) [h0, h3, h4, hH, fl, fg, hpm, Sp.cells, Sg.cells, Sp.av, Sg.av, List.length_map]) (by simp) ?_
    simp only [puts_some, updo]
    refine AOPS.all (by simp (disch := first|omega|(simp only[ln];omega)) [if_pos, idf_Wd', h0, h3, h4, hH, fl, fg, hpm, Sp.cells, Sg.cells, Sp.av, Sg.av, List.length_map]; rfl) ?_
    refine hK7 _ ?_
    refine AWP.region (AOPS.all (by simp (disch := first|omega|(simp only[ln];omega)) [idf_Wd', h4]; rfl) ?_)
    refine ⟨l.length - (i + 1), by omega, i + 1, id, rfl, by omega, by simp [h0], by simp [h3], by simp (disch := omega) [h4], by simp [fst], rfl⟩
  · try simp only [decide_eq_true_eq, decide_eq_false_iff_not] at h11
    have hin : i = l.length := by omega
    rw [hin, fillR_all] at hH
    refine AWP.exit ?_
    refine hK3 _ ?_
    refine AWP.seqk fun K8 hK8 => ?_
    refine AWP.region (AOPS.all (by simp (disch := first|omega|(simp only[ln];omega)) [idf_Wd', h3]; rfl) ?_)
    refine hK8 _ ?_
    refine AWP.ret ?_
    exact hK _ _ _ _ trivial (((Fin.mk (r := .osl id 0 l.length) (by simp [aRes, aResL, aRes1, idf_Wd'])).freeze (id := id) (z := 2) (es := l.map Sp.cells) (by simp [hH])).cast (fz_fill _ _ rfl))

theorem eqSpot_fc (p : Sp) : FC Try.prog 189 [p.av, p.av] (.bool true) := by
  refine FC.body Try.func189 rfl (by simp [idfL, idf, idfLL_iff, Sp.av, Sp.cells, Sg.av, Sg.cells]) (by simp [idfL, idf, idfLL_iff, idf_Wd', Sp.av, Sp.cells, Sg.av, Sg.cells]) 15 rfl fun nx K hK => ?_
  refine AWP.seqk fun K1 hK1 => ?_
  refine AWP.region (AOPS.all (by simp (disch := first|omega|(simp only[ln];omega)) [idf_Wd', Sp.av, Sp.cells, Sg.av, Sg.cells]; rfl) ?_)
  refine hK1 _ ?_
  refine AWP.seqk fun K2 hK2 => ?_
  refine AWP.seqk fun K3 hK3 => ?_
  refine AWP.region (AOPS.all (by simp (disch := first|omega|(simp only[ln];omega)) [idf_Wd', Sp.av, Sp.cells, Sg.av, Sg.cells]; rfl) ?_)
  refine hK3 _ ?_
  refine cond_ok _ (by simp (disch := first|omega|(simp only[ln];omega)); rfl) (fun h9 => ?_) (fun h9 => ?_)
  · simp at h9
  · try simp only [decide_eq_true_eq, decide_eq_false_iff_not] at h9
    refine AWP.skip ?_
    refine hK2 _ ?_
    refine AWP.seqk fun K4 hK4 => ?_
    refine AWP.seqk fun K5 hK5 => ?_
    refine AWP.region (AOPS.all (by simp (disch := first|omega|(simp only[ln];omega)) [idf_Wd', Sp.av, Sp.cells, Sg.av, Sg.cells]; rfl) ?_)
    refine hK5 _ ?_
    refine cond_ok _ (by simp (disch := first|omega|(simp only[ln];omega)); rfl) (fun h14 => ?_) (fun h14 => ?_)
    · simp at h14
    · try simp only [decide_eq_true_eq, decide_eq_false_iff_not] at h14
      refine AWP.skip ?_
      refine hK4 _ ?_
      refine AWP.seqk fun K6 hK6 => ?_
      refine AWP.region (AOPS.all (by simp (disch := first|omega|(simp only[ln];omega)) [idf_Wd', Sp.av, Sp.cells, Sg.av, Sg.cells]; rfl) ?_)
      refine hK6 _ ?_
      refine AWP.ret ?_
      exact hK _ _ _ _ trivial ((Fin.mk (by simp [aRes, aResL, aRes1, idf_Wd', Sp.av, Sp.cells, Sg.av, Sg.cells]; try rfl)))

set_option maxHeartbeats 1000000 in
theorem eqSpotS_fc (l : List Sp) (hl : l.length ≤ 9223372036854775807) : FC Try.prog 119 [.isl (l.map Sp.cells), .isl (l.map Sp.cells)] (.bool true) := by
  refine FC.body Try.func119 rfl (by simp [idfL, idf, idfLL_iff, Sp.av, Sp.cells, Sg.av, Sg.cells]) (by simp [idfL, idf, idfLL_iff, idf_Wd', Sp.av, Sp.cells, Sg.av, Sg.cells]) 27 rfl fun nx K hK => ?_
  refine AWP.seqk fun K1 hK1 => ?_
  refine AWP.region (AOPS.all (by simp (disch := first|omega|(simp only[ln];omega)) [idf_Wd', Sp.av, Sp.cells, Sg.av, Sg.cells]; rfl) ?_)
  refine hK1 _ ?_
  refine AWP.seqk fun K2 hK2 => ?_
  refine AWP.seqk fun K3 hK3 => ?_
  refine AWP.region (AOPS.all (by simp (disch := first|omega|(simp only[ln];omega)) [idf_Wd', Sp.av, Sp.cells, Sg.av, Sg.cells, List.length_map]; rfl) ?_)
  refine hK3 _ ?_
  refine cond_ok _ (by simp (disch := first|omega|(simp only[ln];omega)); rfl) (fun h10 => ?_) (fun h10 => ?_)
  · simp at h10
  · try simp only [decide_eq_true_eq, decide_eq_false_iff_not] at h10
    refine AWP.skip ?_
    refine hK2 _ ?_
    refine AWP.seqk fun K4 hK4 => ?_
    refine AWP.seqk fun K5 hK5 => ?_
    refine AWP.region (AOPS.all (by simp (disch := first|omega|(simp only[ln];omega)) [idf_Wd', Sp.av, Sp.cells, Sg.av, Sg.cells]; rfl) ?_)
    refine hK5 _ ?_
    refine AWP.block ?_
    
    refine AWP.loop (fun N s => ∃ i : Nat, N = l.length - i ∧ i ≤ l.length ∧ s.env 0 = .isl (l.map Sp.cells) ∧ s.env 1 = .isl (l.map Sp.cells) ∧ s.env 5 = .int .i64 (i : Int) ∧ s.nt = 27) (l.length) (⟨0, by omega, by omega, by simp (disch := omega), by simp (disch := omega), by simp (disch := omega), rfl⟩) ?_
    rintro N ⟨e, H, mm, nt⟩ ⟨i, rfl, hi, g0, g1, g5, rfl⟩
    simp only [] at g0 g1 g5
    refine AWP.seqk fun K6 hK6 => ?_
    refine AWP.seqk fun K7 hK7 => ?_
    refine AWP.region (AOPS.all (by simp (disch := first|omega|(simp only[ln];omega)) [idf_Wd', Sp.av, Sp.cells, Sg.av, Sg.cells, g0, g5, List.length_map]; rfl) ?_)
    refine hK7 _ ?_
    refine cond_ok _ (by simp (disch := first|omega|(simp only[ln];omega)); rfl) (fun h14 => ?_) (fun h14 => ?_)
    · try simp only [decide_eq_true_eq, decide_eq_false_iff_not] at h14
      have hi' : i < l.length := by omega
      obtain ⟨p, hpi⟩ : ∃ p, l[i]? = some p := ⟨l[i], by simp [hi']⟩
      have hpm : (l.map Sp.cells)[i]? = some p.cells := by rw [List.getElem?_map, hpi]; rfl
      refine AWP.skip ?_
      refine hK6 _ ?_
      refine AWP.seqk fun K8 hK8 => ?_
      refine AWP.block ?_
      refine AWP.seqk fun K9 hK9 => ?_
      refine AWP.draw 10 Try.checked.mixed (by kernel_rfl) (by simp) ?_
      simp only [List.take_succ_cons, List.take_zero, List.drop_succ_cons, List.drop_zero]
      refine DP.runFk 8 (by simp (disch := first|omega|(simp only[ln];omega)) [runDf.eq_def, runF1, runF2, stepF.eq_def, updo.eq_def, hupo.eq_def, opSto1.eq_def, List.take_succ_cons, List.take_zero, if_pos, idf_Wd', Sp.av, Sp.cells, Sg.av, Sg.cells, g0, g1, g5, hpm, List.length_map]; rfl) fun fs10 hfs10 => ?_
      replace hfs10 : fs10.length = 8 := hfs10.trans rfl
      simp only [List.drop_succ_cons, List.drop_zero]
      refine DP.fcall (eqSpot_fc p) rfl rfl rfl hb189 (by simp (disch := first|omega|(simp only[ln];omega)) [idf_Wd', g0, g1, g5, hpm, List.length_map, Sp.av, Sp.cells, Sg.av, Sg.cells]) (by simp (disch := first|omega|(simp only[ln];omega)) [g0, g1, g5, hpm, List.length_map]) (by simp) ?_
      simp only [updo]
      refine DP.runFk 1 (by simp (disch := first|omega|(simp only[ln];omega)) [runDf.eq_def, runF1, runF2, stepF.eq_def, updo.eq_def, hupo.eq_def, opSto1.eq_def, List.take_succ_cons, List.take_zero, if_pos, idf_Wd', Sp.av, Sp.cells, Sg.av, Sg.cells, g0, g1, g5, hpm, List.length_map]; rfl) fun fs11 hfs11 => ?_
      replace hfs11 : fs11.length = 1 := hfs11.trans rfl
      simp only [List.drop_succ_cons, List.drop_zero]
      refine DQ.runF (m := 10) (by simp only [List.length_append, List.length_cons, List.length_nil, hfs10, hfs11]; omega) _ _ _ (by kernel_rfl) rfl (by simp (disch := first|omega|(simp only[ln];omega)) [runDf.eq_def, runF1, runF2, stepF.eq_def, updo.eq_def, hupo.eq_def, opSto1.eq_def, if_pos, idf_Wd', Sp.av, Sp.cells, Sg.av, Sg.cells, g0, g1, g5, hpm, List.length_map]; rfl) ?_
      refine hK9 _ ?_
      refine cond_ok _ (by simp (disch := first|omega|(simp only[ln];omega)); rfl) (fun h26 => ?_) (fun h26 => ?_)
      · simp at h26
      · try simp only [decide_eq_true_eq, decide_eq_false_iff_not] at h26
        refine AWP.skip ?_
        refine hK8 _ ?_
        refine AWP.region (AOPS.all (by simp (disch := first|omega|(simp only[ln];omega)) [idf_Wd', Sp.av, Sp.cells, Sg.av, Sg.cells, g5]; rfl) ?_)
        refine ⟨l.length - (i + 1), by omega, i + 1, rfl, by omega, by simp (disch := omega) [g0, g1, g5], by simp (disch := omega) [g0, g1, g5], by simp (disch := omega) [g0, g1, g5], rfl⟩
    · try simp only [decide_eq_true_eq, decide_eq_false_iff_not] at h14
      refine AWP.exit ?_
      refine hK4 _ ?_
      refine AWP.seqk fun K12 hK12 => ?_
      refine AWP.region (AOPS.all (by simp (disch := first|omega|(simp only[ln];omega)) [idf_Wd', Sp.av, Sp.cells, Sg.av, Sg.cells]; rfl) ?_)
      refine hK12 _ ?_
      refine AWP.ret ?_
      exact hK _ _ _ _ trivial ((Fin.mk (by simp [aRes, aResL, aRes1, idf_Wd', Sp.av, Sp.cells, Sg.av, Sg.cells]; try rfl)))

theorem szRing_fc (r : List Sp) (n : Int) (h0 : 0 ≤ n) (h1 : n ≤ 9223372036854775807) (hl : r.length ≤ 9223372036854775807) : FC Try.prog 35 [.agg [.isl (r.map Sp.cells)], .int .i64 n] (.int .i64 (szN r.length n)) := by
  refine FC.body Try.func35 rfl (by simp [idfL, idf, idfLL_iff, Sp.av, Sp.cells, Sg.av, Sg.cells]) (by simp [idfL, idf, idfLL_iff, idf_Wd', Sp.av, Sp.cells, Sg.av, Sg.cells]) 12 rfl fun nx K hK => ?_
  refine AWP.seqk fun K1 hK1 => ?_
  refine AWP.region (AOPS.all (by simp (disch := first|omega|(simp only[ln];omega)) [idf_Wd', Sp.av, Sp.cells, Sg.av, Sg.cells]; rfl) ?_)
  refine hK1 _ ?_
  refine AWP.seqk fun K2 hK2 => ?_
  refine AWP.region ?_
  refine AOPS.runk 3 (by simp (disch := first|omega|(simp only[ln];omega)) [List.take_succ_cons, List.take_zero, idf_Wd', Sp.av, Sp.cells, Sg.av, Sg.cells]; rfl) ?_
  simp only [List.drop_succ_cons, List.drop_zero]
  refine AOPS.fcall (szSpotS_fc r n h0 h1 hl) rfl rfl rfl hb113 (by simp (disch := first|omega|(simp only[ln];omega)) [idf_Wd', Sp.av, Sp.cells, Sg.av, Sg.cells]) (by simp (disch := first|omega|(simp only[ln];omega))) (by simp) ?_
  simp only [puts_some, updo]
  refine AOPS.all (by simp (disch := first|omega|(simp only[ln];omega)) [idf_Wd', Sp.av, Sp.cells, Sg.av, Sg.cells]; rfl) ?_
  refine hK2 _ ?_
  refine AWP.seqk fun K3 hK3 => ?_
  refine AWP.seqk fun K4 hK4 => ?_
  refine AWP.region (AOPS.all (by simp (disch := first|omega|(simp only[ln];omega)) [idf_Wd', Sp.av, Sp.cells, Sg.av, Sg.cells]; rfl) ?_)
  refine hK4 _ ?_
  refine cond_ok (decide (szN r.length n < 0)) (by simp (disch := first|omega|(simp only[ln];omega))) (fun h10 => ?_) (fun h10 => ?_)
  · try simp only [decide_eq_true_eq, decide_eq_false_iff_not] at h10
    have hm : szN r.length n = -1 := by unfold szN at *; split at h10 <;> simp_all <;> omega
    refine AWP.seqk fun K5 hK5 => ?_
    refine AWP.region (AOPS.all (by simp (disch := first|omega|(simp only[ln];omega)) [idf_Wd', Sp.av, Sp.cells, Sg.av, Sg.cells]; rfl) ?_)
    refine hK5 _ ?_
    refine AWP.ret ?_
    exact hK _ _ _ _ trivial ((Fin.mk (by simp [aRes, aResL, aRes1, idf_Wd', Sp.av, Sp.cells, Sg.av, Sg.cells]; try rfl)).cast (by rw [hm]))
  · try simp only [decide_eq_true_eq, decide_eq_false_iff_not] at h10
    refine AWP.skip ?_
    refine hK3 _ ?_
    refine AWP.seqk fun K6 hK6 => ?_
    refine AWP.region (AOPS.all (by simp (disch := first|omega|(simp only[ln];omega)) [idf_Wd', Sp.av, Sp.cells, Sg.av, Sg.cells]; rfl) ?_)
    refine hK6 _ ?_
    refine AWP.ret ?_
    exact hK _ _ _ _ trivial (Fin.mk (by simp (disch := first|omega|(simp only[ln];omega)) [aRes, aResL, aRes1, idf_Wd', Sp.av, Sp.cells, Sg.av, Sg.cells]))

theorem toRing_fc (r : List Sp) (hl : r.length ≤ 1048576) : FC Try.prog 37 [.agg [.isl (r.map Sp.cells)]] (.agg [.isl (r.map Sp.cells)]) := by
  refine FC.body Try.func37 rfl (by simp [idfL, idf, idfLL_iff, Sp.av, Sp.cells, Sg.av, Sg.cells]) (by simp [idfL, idf, idfLL_iff, Sp.av, Sp.cells, Sg.av, Sg.cells]) 9 rfl fun nx K hK => ?_
  refine AWP.seqk fun K1 hK1 => ?_
  refine AWP.region (AOPS.all (by simp (disch := first|omega|(simp only[ln];omega)) [idf_Wd', Sp.av, Sp.cells, Sg.av, Sg.cells]; rfl) ?_)
  refine hK1 _ ?_
  refine AWP.seqk fun K2 hK2 => ?_
  refine AWP.region (AOPS.all (by simp (disch := first|omega|(simp only[ln];omega)) [idf_Wd', Sp.av, Sp.cells, Sg.av, Sg.cells]; rfl) ?_)
  refine hK2 _ ?_
  refine AWP.seqk fun K3 hK3 => ?_
  refine AWP.region ?_
  refine AOPS.runk 2 (by simp (disch := first|omega|(simp only[ln];omega)) [List.take_succ_cons, List.take_zero, idf_Wd', Sp.av, Sp.cells, Sg.av, Sg.cells]; rfl) ?_
  simp only [List.drop_succ_cons, List.drop_zero]
  refine AOPS.fcall (toSpotS_fc r hl) rfl rfl rfl hb116 (by simp (disch := first|omega|(simp only[ln];omega)) [idf_Wd', Sp.av, Sp.cells, Sg.av, Sg.cells]) (by simp (disch := first|omega|(simp only[ln];omega))) (by simp) ?_
  simp only [puts_some, updo]
  refine AOPS.all (by simp (disch := first|omega|(simp only[ln];omega)) [idf_Wd', Sp.av, Sp.cells, Sg.av, Sg.cells]; rfl) ?_
  refine hK3 _ ?_
  refine AWP.seqk fun K4 hK4 => ?_
  refine AWP.region (AOPS.all (by simp (disch := first|omega|(simp only[ln];omega)) [idf_Wd', Sp.av, Sp.cells, Sg.av, Sg.cells]; rfl) ?_)
  refine hK4 _ ?_
  refine AWP.ret ?_
  exact hK _ _ _ _ trivial (Fin.mk (by simp (disch := first|omega|(simp only[ln];omega)) [aRes, aResL, aRes1, idf_Wd', Sp.av, Sp.cells, Sg.av, Sg.cells]))

theorem eqRing_fc (r : List Sp) (hl : r.length ≤ 9223372036854775807) : FC Try.prog 39 [.agg [.isl (r.map Sp.cells)], .agg [.isl (r.map Sp.cells)]] (.bool true) := by
  refine FC.body Try.func39 rfl (by simp [idfL, idf, idfLL_iff, Sp.av, Sp.cells, Sg.av, Sg.cells]) (by simp [idfL, idf, idfLL_iff, idf_Wd', Sp.av, Sp.cells, Sg.av, Sg.cells]) 11 rfl fun nx K hK => ?_
  refine AWP.seqk fun K1 hK1 => ?_
  refine AWP.region (AOPS.all (by simp (disch := first|omega|(simp only[ln];omega)) [idf_Wd', Sp.av, Sp.cells, Sg.av, Sg.cells]; rfl) ?_)
  refine hK1 _ ?_
  refine AWP.seqk fun K2 hK2 => ?_
  refine AWP.seqk fun K3 hK3 => ?_
  refine AWP.region ?_
  refine AOPS.runk 4 (by simp (disch := first|omega|(simp only[ln];omega)) [List.take_succ_cons, List.take_zero, idf_Wd', Sp.av, Sp.cells, Sg.av, Sg.cells]; rfl) ?_
  simp only [List.drop_succ_cons, List.drop_zero]
  refine AOPS.fcall (eqSpotS_fc r hl) rfl rfl rfl hb119 (by simp (disch := first|omega|(simp only[ln];omega)) [idf_Wd', Sp.av, Sp.cells, Sg.av, Sg.cells]) (by simp (disch := first|omega|(simp only[ln];omega))) (by simp) ?_
  simp only [puts_some, updo]
  refine AOPS.all (by simp (disch := first|omega|(simp only[ln];omega)) [idf_Wd', Sp.av, Sp.cells, Sg.av, Sg.cells]; rfl) ?_
  refine hK3 _ ?_
  refine cond_ok _ (by simp (disch := first|omega|(simp only[ln];omega)); rfl) (fun h10 => ?_) (fun h10 => ?_)
  · simp at h10
  · try simp only [decide_eq_true_eq, decide_eq_false_iff_not] at h10
    refine AWP.skip ?_
    refine hK2 _ ?_
    refine AWP.seqk fun K4 hK4 => ?_
    refine AWP.region (AOPS.all (by simp (disch := first|omega|(simp only[ln];omega)) [idf_Wd', Sp.av, Sp.cells, Sg.av, Sg.cells]; rfl) ?_)
    refine hK4 _ ?_
    refine AWP.ret ?_
    exact hK _ _ _ _ trivial ((Fin.mk (by simp [aRes, aResL, aRes1, idf_Wd', Sp.av, Sp.cells, Sg.av, Sg.cells]; try rfl)))

end Go.Proofs.Ytmaebeknmiomnaa

/- Walks: rings turned; rows of spots that are marked. -/
namespace Go.Proofs.Ytmaebeknmiomnaa
open Go Go.RowKit
set_option linter.unusedSimpArgs false
set_option linter.unusedVariables false
set_option maxRecDepth 100000
attribute [local simp] List.getElem?_cons_zero List.getElem?_cons_succ List.getElem?_toArray runOps stepOp.eq_def agd.eq_def dstOk.eq_def opVal.eq_def opNew.eq_def opSto.eq_def ev.eq_def cv.eq_def puts_some puts_none upd_ap lst.eq_def aBin.eq_def aUn.eq_def aBi_str aBi_isl aBi_osl aBi_nsl aBi_max aBi_min aBi_max3 aConv.eq_def aLd.eq_def aLoad.eq_def aField.eq_def aFld.eq_def aIdx_isl aIdx_osl aSlc_isl aSlc_osl aSlc_str aSlc_nsl bnd.eq_def evs_nil evs_cons aBuild.eq_def aFill splice.eq_def cells_agg cells_int cells_bool cells_str cells_nil cells_nsl cells_isl cells_osl cells_ptr cells_ip cells_fn cells_Wd one_int one_bool one_str one_nil one_nsl one_isl one_osl one_ptr one_ip one_fn one_Wd aSets hupd_eq hupd_ne wrap_i64s wrap_u64s wrap_u32s wrap_u8s wd_getD wd_set wd_len wd_replicate wd_one wd_fold fz_osl hupd_same aSix.eq_def aEqS.eq_def aEqB_bool aEqB_nsl aEqB_nil
attribute [local simp] szT2 byT2 agT2 unT2 zoT2 szT3 byT3 agT3 unT3 zoT3 szT55 byT55 agT55 elT55 unT55 zoT55 szT57 byT57 agT57 flT57 fdT57_0 zoT57 szT60 byT60 agT60 elT60 unT60 zoT60 szT62 byT62 agT62 flT62 fdT62_0 zoT62 szT67 byT67 agT67 flT67 fdT67_0 fdT67_1 zoT67 szT134 byT134 agT134 flT134 fdT134_0 fdT134_1 zoT134

set_option maxHeartbeats 1000000 in
theorem toSpotS_own (l : List Sp) (hl : l.length ≤ 1048576) (nx : Nat) : ACall Try.prog 116 [.isl (l.map Sp.cells)] (fun _ => none) nx (own1 nx 2 (l.map Sp.cells) (fun id => .osl id 0 l.length)) := by
  refine ACall.body Try.func116 rfl 23 rfl fun K hK => ?_
  refine AWP.seqk fun K1 hK1 => ?_
  refine AWP.region (AOPS.all (by simp (disch := first|omega|(simp only[ln];omega)) [idf_Wd']; rfl) ?_)
  refine hK1 _ ?_
  refine AWP.seqk fun K2 hK2 => ?_
  refine AWP.region (AOPS.all (by simp (disch := first|omega|(simp only[ln];omega)) [if_pos, idf_Wd', List.length_map]; rfl) ?_)
  refine hK2 _ ?_
  refine AWP.seqk fun K3 hK3 => ?_
  refine AWP.seqk fun K4 hK4 => ?_
  refine AWP.region (AOPS.all (by simp (disch := first|omega|(simp only[ln];omega)) [idf_Wd']; rfl) ?_)
  refine hK4 _ ?_
  refine AWP.block ?_
  refine AWP.loop (fun N s => ∃ i id : Nat, N = l.length - i ∧ i ≤ l.length ∧ s.env 0 = .isl (l.map Sp.cells) ∧ s.env 3 = .osl id 0 l.length ∧ s.env 4 = .int .i64 (i : Int) ∧ s.heap id = some (2, fillR Sp.cells [.int .i64 0, .int .i64 0] l i) ∧ nx ≤ id ∧ id < s.nx ∧ s.nt = 23) (l.length) (⟨0, nx, by omega, by omega, by simp, by simp, by simp, by simp [← fillR_zero], by omega, by simp, rfl⟩) ?_
  rintro N ⟨e, H, mm, nt⟩ ⟨i, id, rfl, hi, h0, h3, h4, hH, hx1, hx2, rfl⟩
  simp only [] at h0 h3 h4 hH hx1 hx2
  refine AWP.seqk fun K5 hK5 => ?_
  refine AWP.seqk fun K6 hK6 => ?_
  refine AWP.region (AOPS.all (by simp (disch := first|omega|(simp only[ln];omega)) [idf_Wd', h0, h4, List.length_map]; rfl) ?_)
  refine hK6 _ ?_
  refine cond_ok _ (by simp (disch := first|omega|(simp only[ln];omega)); rfl) (fun h11 => ?_) (fun h11 => ?_)
  · try simp only [decide_eq_true_eq, decide_eq_false_iff_not] at h11
    have hi' : i < l.length := by omega
    obtain ⟨p, hpi⟩ : ∃ p, l[i]? = some p := ⟨l[i], by simp [hi']⟩
    have hpm : (l.map Sp.cells)[i]? = some p.cells := by rw [List.getElem?_map, hpi]; rfl
    have fst := fillR_set Sp.cells [.int .i64 0, .int .i64 0] l hpi
    simp only [Sp.cells] at fst
    have fl := fillR_len Sp.cells [.int .i64 0, .int .i64 0] l hi
    have fg := fillR_getE Sp.cells [.int .i64 0, .int .i64 0] l hi'
    refine AWP.skip ?_
    refine hK5 _ ?_
    refine AWP.seqk fun K7 hK7 => ?_
    refine AWP.block ?_
    refine AWP.region ?_
    refine AOPS.runk 6 (by simp (disch := first|omega|(simp only[ln];omega)) [List.take_succ_cons, List.take_zero, if_pos, idf_Wd', h0, h3, h4, hH, fl, fg, hpm, Sp.cells, Sg.cells, Sp.av, Sg.av, List.length_map]; rfl) ?_
    simp only [List.drop_succ_cons, List.drop_zero]
    refine AOPS.fcall (toSpot_fc p) rfl rfl rfl hb184 (by simp (disch := first|omega|(simp only[ln];omega)) [idf_Wd', h0, h3, h4, hH, fl, fg, hpm, Sp.cells, Sg.cells, Sp.av, Sg.av, List.length_map]) (by simp (disch := first|omega|(simp only[ln];omega)) [h0, h3, h4, hH, fl, fg, hpm, Sp.cells, Sg.cells, Sp.av, Sg.av, List.length_map]) (by simp) ?_
    simp only [puts_some, updo]
    refine AOPS.all (by simp (disch := first|omega|(simp only[ln];omega)) [if_pos, idf_Wd', h0, h3, h4, hH, fl, fg, hpm, Sp.cells, Sg.cells, Sp.av, Sg.av, List.length_map]; rfl) ?_
    refine hK7 _ ?_
    refine AWP.region (AOPS.all (by simp (disch := first|omega|(simp only[ln];omega)) [idf_Wd', h4]; rfl) ?_)
    refine ⟨l.length - (i + 1), by omega, i + 1, id, rfl, by omega, by simp [h0], by simp [h3], by simp (disch := omega) [h4], by simp [fst], hx1, by first | omega | (simp; done) | (simp; omega), rfl⟩
  · try simp only [decide_eq_true_eq, decide_eq_false_iff_not] at h11
    have hin : i = l.length := by omega
    rw [hin, fillR_all] at hH
    refine AWP.exit ?_
    refine hK3 _ ?_
    refine AWP.seqk fun K8 hK8 => ?_
    refine AWP.region (AOPS.all (by simp (disch := first|omega|(simp only[ln];omega)) [idf_Wd', h3]; rfl) ?_)
    refine hK8 _ ?_
    refine AWP.ret ?_
    exact hK _ _ _ _ _ trivial (Fin.own1 (Fin.mk (by simp (disch := omega) [aRes, aResL, aRes1, idf_Wd']; try rfl)) (id := id) (by simp [hH])) (⟨id, by first | omega | (simp; done) | (simp; omega), by first | omega | (simp; done) | (simp; omega), rfl, rfl⟩)

theorem toRing_own (r : List Sp) (hl : r.length ≤ 1048576) (nx : Nat) : ACall Try.prog 37 [.agg [.isl (r.map Sp.cells)]] (fun _ => none) nx (own1 nx 2 (r.map Sp.cells) (fun id => .agg [.osl id 0 r.length])) := by
  refine ACall.body Try.func37 rfl 9 rfl fun K hK => ?_
  refine AWP.seqk fun K1 hK1 => ?_
  refine AWP.region (AOPS.all (by simp (disch := first|omega|(simp only[ln];omega)) [idf_Wd', Sp.av, Sp.cells, Sg.av, Sg.cells]; rfl) ?_)
  refine hK1 _ ?_
  refine AWP.seqk fun K2 hK2 => ?_
  refine AWP.region (AOPS.all (by simp (disch := first|omega|(simp only[ln];omega)) [idf_Wd', Sp.av, Sp.cells, Sg.av, Sg.cells]; rfl) ?_)
  refine hK2 _ ?_
  refine AWP.seqk fun K3 hK3 => ?_
  refine AWP.region ?_
  refine AOPS.runk 2 (by simp (disch := first|omega|(simp only[ln];omega)) [List.take_succ_cons, List.take_zero, idf_Wd', Sp.av, Sp.cells, Sg.av, Sg.cells]; rfl) ?_
  simp only [List.drop_succ_cons, List.drop_zero]
  refine AOPS.ocallL 4 (toSpotS_own r hl _) rfl rfl rfl hb116 (by simp (disch := first|omega|(simp only[ln];omega)) [lv, idf_Wd', Sp.av, Sp.cells, Sg.av, Sg.cells]) (⟨fun _ h => by simp [nwr, nwrL]; try exact h, by simp [nwr, nwrL, Sp.cells, Sg.cells]⟩) (by simp (disch := first|omega|(simp only[ln];omega))) (by simp) ?_
  intro id nx2 hi1 hi2
  simp only [] at hi1 hi2
  simp only [puts_some, updo]
  refine AOPS.all (by simp (disch := first|omega|(simp only[ln];omega)) [idf_Wd', Sp.av, Sp.cells, Sg.av, Sg.cells]; rfl) ?_
  refine hK3 _ ?_
  refine AWP.seqk fun K4 hK4 => ?_
  refine AWP.region (AOPS.all (by simp (disch := first|omega|(simp only[ln];omega)) [idf_Wd', Sp.av, Sp.cells, Sg.av, Sg.cells]; rfl) ?_)
  refine hK4 _ ?_
  refine AWP.ret ?_
  exact hK _ _ _ _ _ trivial (Fin.own1 (Fin.mk (by simp (disch := omega) [aRes, aResL, aRes1, idf_Wd', Sp.av, Sp.cells, Sg.av, Sg.cells]; try rfl)) (id := id) (by simp (disch := omega))) (⟨id, by first | omega | (simp; done) | (simp; omega), by first | omega | (simp; done) | (simp; omega), rfl, rfl⟩)

set_option maxHeartbeats 1000000 in
theorem markSpotS_ac (n id : Nat) (es : List (List AV)) (k : Int) (HP : Heap) (nx : Nat) (hH : HP id = some (2, es)) (hn : es.length = n) (hw : ∀ row ∈ es, row.length = 2) (hk0 : 0 ≤ k) (hk1 : k ≤ 1000) (hn1 : n ≤ 1099511627776) : ACall Try.prog 157 [.osl id 0 n, .int .i64 k] HP nx (fun r H' nx' => r = .int .i64 (k + 2 * (n : Int)) ∧ H' = hupd HP id (some (2, mkR (m2 k) n)) ∧ nx' = nx) := by
  refine ACall.body Try.func157 rfl 27 rfl fun K hK => ?_
  refine AWP.seqk fun K1 hK1 => ?_
  refine AWP.region (AOPS.all (by simp (disch := first|omega|(simp only[ln];omega)) [idf_Wd', Sp.av, Sp.cells, Sg.av, Sg.cells]; rfl) ?_)
  refine hK1 _ ?_
  refine AWP.seqk fun K2 hK2 => ?_
  refine AWP.seqk fun K3 hK3 => ?_
  refine AWP.region (AOPS.all (by simp (disch := first|omega|(simp only[ln];omega)) [idf_Wd', Sp.av, Sp.cells, Sg.av, Sg.cells]; rfl) ?_)
  refine hK3 _ ?_
  refine AWP.block ?_
  
  refine AWP.loop (fun N s => ∃ i : Nat, N = n - i ∧ i ≤ n ∧ (s.heap = hupd HP id (some (2, cmR (m2 k) es i))) ∧ (s.nx = nx) ∧ s.env 0 = .osl id 0 n ∧ s.env 1 = .int .i64 (k + 2 * (i : Int)) ∧ s.env 5 = .int .i64 (i : Int) ∧ s.nt = 27) (n) (⟨0, by omega, by omega, by rw [cmR_zero]; exact (hupd_id hH).symm, rfl, by simp (disch := omega), by simp (disch := omega) <;> omega, by simp (disch := omega), rfl⟩) ?_
  rintro N ⟨e, H, mm, nt⟩ ⟨i, rfl, hi, rfl, rfl, g0, g1, g5, rfl⟩
  simp only [] at g0 g1 g5
  refine AWP.seqk fun K4 hK4 => ?_
  refine AWP.seqk fun K5 hK5 => ?_
  refine AWP.region (AOPS.all (by simp (disch := first|omega|(simp only[ln];omega)) [idf_Wd', Sp.av, Sp.cells, Sg.av, Sg.cells, g0, g5]; rfl) ?_)
  refine hK5 _ ?_
  refine cond_ok _ (by simp (disch := first|omega|(simp only[ln];omega)); rfl) (fun h9 => ?_) (fun h9 => ?_)
  · try simp only [decide_eq_true_eq, decide_eq_false_iff_not] at h9
    have hi' : i < n := by omega
    obtain ⟨row, hrow⟩ : ∃ row, es[i]? = some row := ⟨es[i], by simp⟩
    have hrl := hw row (List.mem_of_getElem? hrow)
    obtain ⟨r0, r1, rfl⟩ : ∃ r0 r1, row = [r0, r1] := by
      match row, hrl with
      | [a, b], _ => exact ⟨a, b, rfl⟩
    have hget : (cmR (m2 k) es i)[i]? = some [r0, r1] := by rw [cmR_get]; exact hrow
    have hcl : (cmR (m2 k) es i).length = n := by rw [cmR_len _ _ (by omega)]; exact hn
    have hset : (cmR (m2 k) es i).set i [.int .i64 (k + 2 * (i : Int)), .int .i64 (k + 2 * (i : Int) + 1)] = cmR (m2 k) es (i + 1) := cmR_set (m2 k) es (i := i) (by omega)
    generalize cmR (m2 k) es i = C at *
    have hgE : ∀ h : i < C.length, C[i] = [r0, r1] := fun h => by rw [List.getElem?_eq_getElem h] at hget; simpa using hget
    refine AWP.skip ?_
    refine hK4 _ ?_
    refine AWP.seqk fun K6 hK6 => ?_
    refine AWP.block ?_
    refine AWP.seqk fun K7 hK7 => ?_
    refine AWP.region (AOPS.all (by simp (disch := first|omega|(simp only[ln];omega)) [if_pos, idf_Wd', Sp.av, Sp.cells, Sg.av, Sg.cells, g0, g1, g5, hget, hcl, hgE]; rfl) ?_)
    refine hK7 _ ?_
    refine AWP.seqk fun K8 hK8 => ?_
    refine AWP.region (AOPS.all (by simp (disch := first|omega|(simp only[ln];omega)) [idf_Wd', Sp.av, Sp.cells, Sg.av, Sg.cells, g1]; rfl) ?_)
    refine hK8 _ ?_
    refine AWP.seqk fun K9 hK9 => ?_
    refine AWP.region (AOPS.all (by simp (disch := first|omega|(simp only[ln];omega)) [if_pos, idf_Wd', Sp.av, Sp.cells, Sg.av, Sg.cells, g0, g1, g5, hget, hcl, hgE]; rfl) ?_)
    refine hK9 _ ?_
    refine AWP.region (AOPS.all (by simp (disch := first|omega|(simp only[ln];omega)) [idf_Wd', Sp.av, Sp.cells, Sg.av, Sg.cells, g1]; rfl) ?_)
    refine hK6 _ ?_
    refine AWP.region (AOPS.all (by simp (disch := first|omega|(simp only[ln];omega)) [idf_Wd', Sp.av, Sp.cells, Sg.av, Sg.cells, g5]; rfl) ?_)
    refine ⟨n - (i + 1), by omega, i + 1, rfl, by omega, by simp [hupd_same, List.set_set, hset], by simp, by simp (disch := omega) [g0, g1, g5], by simp (disch := omega) [g0, g1, g5] <;> omega, by simp (disch := omega) [g0, g1, g5], rfl⟩
  · try simp only [decide_eq_true_eq, decide_eq_false_iff_not] at h9
    have hin : i = n := by omega
    subst hin
    subst hn
    refine AWP.exit ?_
    refine hK2 _ ?_
    refine AWP.seqk fun K10 hK10 => ?_
    refine AWP.region (AOPS.all (by simp (disch := first|omega|(simp only[ln];omega)) [idf_Wd', Sp.av, Sp.cells, Sg.av, Sg.cells, g1]; rfl) ?_)
    refine hK10 _ ?_
    refine AWP.ret ?_
    exact hK _ _ _ _ _ trivial (Fin.mk (by simp [aRes, aResL, aRes1, idf_Wd', Sp.av, Sp.cells, Sg.av, Sg.cells]; try rfl)) (⟨rfl, by rw [cmR_end], rfl⟩)

set_option maxHeartbeats 1000000 in
theorem heldSpotS_fc (n : Nat) (k : Int) (hk0 : 0 ≤ k) (hk1 : k ≤ 1000) (hn1 : n ≤ 1099511627776) : FC Try.prog 158 [.isl (mkR (m2 k) n), .int .i64 k] (.int .i64 (k + 2 * (n : Int))) := by
  refine FC.body Try.func158 rfl (by simp [idfL, idf, idfLL_iff, mkR, m2]) (by simp [idfL, idf, idfLL_iff, idf_Wd', Sp.av, Sp.cells, Sg.av, Sg.cells]) 31 rfl fun nx K hK => ?_
  refine AWP.seqk fun K1 hK1 => ?_
  refine AWP.region (AOPS.all (by simp (disch := first|omega|(simp only[ln];omega)) [idf_Wd', Sp.av, Sp.cells, Sg.av, Sg.cells]; rfl) ?_)
  refine hK1 _ ?_
  refine AWP.seqk fun K2 hK2 => ?_
  refine AWP.seqk fun K3 hK3 => ?_
  refine AWP.region (AOPS.all (by simp (disch := first|omega|(simp only[ln];omega)) [idf_Wd', Sp.av, Sp.cells, Sg.av, Sg.cells]; rfl) ?_)
  refine hK3 _ ?_
  refine AWP.block ?_
  
  refine AWP.loop (fun N s => ∃ i : Nat, N = n - i ∧ i ≤ n ∧ s.env 0 = .isl (mkR (m2 k) n) ∧ s.env 1 = .int .i64 (k + 2 * (i : Int)) ∧ s.env 5 = .int .i64 (i : Int) ∧ s.nt = 31) (n) (⟨0, by omega, by omega, by simp (disch := omega), by simp (disch := omega) <;> omega, by simp (disch := omega), rfl⟩) ?_
  rintro N ⟨e, H, mm, nt⟩ ⟨i, rfl, hi, g0, g1, g5, rfl⟩
  simp only [] at g0 g1 g5
  refine AWP.seqk fun K4 hK4 => ?_
  refine AWP.seqk fun K5 hK5 => ?_
  refine AWP.region (AOPS.all (by simp (disch := first|omega|(simp only[ln];omega)) [idf_Wd', Sp.av, Sp.cells, Sg.av, Sg.cells, g0, g5, mkR_len]; rfl) ?_)
  refine hK5 _ ?_
  refine cond_ok _ (by simp (disch := first|omega|(simp only[ln];omega)); rfl) (fun h9 => ?_) (fun h9 => ?_)
  · try simp only [decide_eq_true_eq, decide_eq_false_iff_not] at h9
    have hi' : i < n := by omega
    have hat : (mkR (m2 k) n)[i]? = some [.int .i64 (k + 2 * (i : Int)), .int .i64 (k + 2 * (i : Int) + 1)] := mkR_get (m2 k) hi'
    refine AWP.skip ?_
    refine hK4 _ ?_
    refine AWP.seqk fun K6 hK6 => ?_
    refine AWP.block ?_
    refine AWP.seqk fun K7 hK7 => ?_
    refine AWP.seqk fun K8 hK8 => ?_
    refine AWP.region (AOPS.all (by simp (disch := first|omega|(simp only[ln];omega)) [if_pos, idf_Wd', Sp.av, Sp.cells, Sg.av, Sg.cells, g0, g1, g5, hat, mkR_len]; rfl) ?_)
    refine hK8 _ ?_
    refine cond_ok _ (by simp (disch := first|omega|(simp only[ln];omega)); rfl) (fun h18 => ?_) (fun h18 => ?_)
    · simp at h18
    · try simp only [decide_eq_true_eq, decide_eq_false_iff_not] at h18
      refine AWP.skip ?_
      refine hK7 _ ?_
      refine AWP.seqk fun K9 hK9 => ?_
      refine AWP.region (AOPS.all (by simp (disch := first|omega|(simp only[ln];omega)) [idf_Wd', Sp.av, Sp.cells, Sg.av, Sg.cells, g1]; rfl) ?_)
      refine hK9 _ ?_
      refine AWP.seqk fun K10 hK10 => ?_
      refine AWP.seqk fun K11 hK11 => ?_
      refine AWP.region (AOPS.all (by simp (disch := first|omega|(simp only[ln];omega)) [if_pos, idf_Wd', Sp.av, Sp.cells, Sg.av, Sg.cells, g0, g5, hat, mkR_len]; rfl) ?_)
      refine hK11 _ ?_
      refine cond_ok _ (by simp (disch := first|omega|(simp only[ln];omega)); rfl) (fun h27 => ?_) (fun h27 => ?_)
      · simp at h27
      · try simp only [decide_eq_true_eq, decide_eq_false_iff_not] at h27
        refine AWP.skip ?_
        refine hK10 _ ?_
        refine AWP.region (AOPS.all (by simp (disch := first|omega|(simp only[ln];omega)) [idf_Wd', Sp.av, Sp.cells, Sg.av, Sg.cells]; rfl) ?_)
        refine hK6 _ ?_
        refine AWP.region (AOPS.all (by simp (disch := first|omega|(simp only[ln];omega)) [idf_Wd', Sp.av, Sp.cells, Sg.av, Sg.cells, g5]; rfl) ?_)
        refine ⟨n - (i + 1), by omega, i + 1, rfl, by omega, by simp (disch := omega) [g0, g1, g5], by simp (disch := omega) [g0, g1, g5] <;> omega, by simp (disch := omega) [g0, g1, g5], rfl⟩
  · try simp only [decide_eq_true_eq, decide_eq_false_iff_not] at h9
    have hin : i = n := by omega
    subst hin
    refine AWP.exit ?_
    refine hK2 _ ?_
    refine AWP.seqk fun K12 hK12 => ?_
    refine AWP.region (AOPS.all (by simp (disch := first|omega|(simp only[ln];omega)) [idf_Wd', Sp.av, Sp.cells, Sg.av, Sg.cells, g1]; rfl) ?_)
    refine hK12 _ ?_
    refine AWP.ret ?_
    exact hK _ _ _ _ trivial ((Fin.mk (by simp [aRes, aResL, aRes1, idf_Wd', Sp.av, Sp.cells, Sg.av, Sg.cells]; try rfl)))

theorem heldRing_fc (n : Nat) (k : Int) (hk0 : 0 ≤ k) (hk1 : k ≤ 1000) (hn1 : n ≤ 1099511627776) : FC Try.prog 75 [.agg [.isl (mkR (m2 k) n)], .int .i64 k] (.int .i64 (k + 2 * (n : Int))) := by
  refine FC.body Try.func75 rfl (by simp [idfL, idf, idfLL_iff, mkR, m2]) (by simp [idfL, idf, idfLL_iff, idf_Wd', Sp.av, Sp.cells, Sg.av, Sg.cells]) 12 rfl fun nx K hK => ?_
  refine AWP.seqk fun K1 hK1 => ?_
  refine AWP.region (AOPS.all (by simp (disch := first|omega|(simp only[ln];omega)) [idf_Wd', Sp.av, Sp.cells, Sg.av, Sg.cells]; rfl) ?_)
  refine hK1 _ ?_
  refine AWP.seqk fun K2 hK2 => ?_
  refine AWP.region ?_
  refine AOPS.runk 3 (by simp (disch := first|omega|(simp only[ln];omega)) [List.take_succ_cons, List.take_zero, idf_Wd', Sp.av, Sp.cells, Sg.av, Sg.cells]; rfl) ?_
  simp only [List.drop_succ_cons, List.drop_zero]
  refine AOPS.fcall (heldSpotS_fc n k hk0 hk1 hn1) rfl rfl rfl hb158 (by simp (disch := first|omega|(simp only[ln];omega)) [idf_Wd', Sp.av, Sp.cells, Sg.av, Sg.cells]) (by simp (disch := first|omega|(simp only[ln];omega))) (by simp) ?_
  simp only [puts_some, updo]
  refine AOPS.all (by simp (disch := first|omega|(simp only[ln];omega)) [idf_Wd', Sp.av, Sp.cells, Sg.av, Sg.cells]; rfl) ?_
  refine hK2 _ ?_
  refine AWP.seqk fun K3 hK3 => ?_
  refine AWP.seqk fun K4 hK4 => ?_
  refine AWP.region (AOPS.all (by simp (disch := first|omega|(simp only[ln];omega)) [idf_Wd', Sp.av, Sp.cells, Sg.av, Sg.cells]; rfl) ?_)
  refine hK4 _ ?_
  refine cond_ok (decide (k + 2 * (n : Int) < 0)) (by simp (disch := first|omega|(simp only[ln];omega))) (fun h10 => ?_) (fun h10 => ?_)
  · simp at h10; omega
  · try simp only [decide_eq_true_eq, decide_eq_false_iff_not] at h10
    refine AWP.skip ?_
    refine hK3 _ ?_
    refine AWP.seqk fun K5 hK5 => ?_
    refine AWP.region (AOPS.all (by simp (disch := first|omega|(simp only[ln];omega)) [idf_Wd', Sp.av, Sp.cells, Sg.av, Sg.cells]; rfl) ?_)
    refine hK5 _ ?_
    refine AWP.ret ?_
    exact hK _ _ _ _ trivial ((Fin.mk (by simp [aRes, aResL, aRes1, idf_Wd', Sp.av, Sp.cells, Sg.av, Sg.cells]; try rfl)))

theorem markSpotS_nil (k : Int) (hk0 : 0 ≤ k) (hk1 : k ≤ 1000) : FC Try.prog 157 [.isl [], .int .i64 k] (.int .i64 k) := by
  refine FC.body Try.func157 rfl (by simp [idfL, idf, idfLL_iff, idf_Wd', Sp.av, Sp.cells, Sg.av, Sg.cells]) (by simp [idfL, idf, idfLL_iff, idf_Wd', Sp.av, Sp.cells, Sg.av, Sg.cells]) 27 rfl fun nx K hK => ?_
  refine AWP.seqk fun K1 hK1 => ?_
  refine AWP.region (AOPS.all (by simp (disch := first|omega|(simp only[ln];omega)) [idf_Wd', Sp.av, Sp.cells, Sg.av, Sg.cells]; rfl) ?_)
  refine hK1 _ ?_
  refine AWP.seqk fun K2 hK2 => ?_
  refine AWP.seqk fun K3 hK3 => ?_
  refine AWP.region (AOPS.all (by simp (disch := first|omega|(simp only[ln];omega)) [idf_Wd', Sp.av, Sp.cells, Sg.av, Sg.cells]; rfl) ?_)
  refine hK3 _ ?_
  refine AWP.block ?_
  
  refine AWP.loop (fun N s => ∃ i : Nat, N = 0 - i ∧ i ≤ 0 ∧ s.env 0 = .isl [] ∧ s.env 1 = .int .i64 k ∧ s.env 5 = .int .i64 (i : Int) ∧ s.nt = 27) (0) (⟨0, by omega, by omega, by simp (disch := omega), by simp (disch := omega), by simp (disch := omega), rfl⟩) ?_
  rintro N ⟨e, H, mm, nt⟩ ⟨i, rfl, hi, g0, g1, g5, rfl⟩
  simp only [] at g0 g1 g5
  refine AWP.seqk fun K4 hK4 => ?_
  refine AWP.seqk fun K5 hK5 => ?_
  refine AWP.region (AOPS.all (by simp (disch := first|omega|(simp only[ln];omega)) [idf_Wd', Sp.av, Sp.cells, Sg.av, Sg.cells, g0, g5]; rfl) ?_)
  refine hK5 _ ?_
  refine cond_ok _ (by simp (disch := first|omega|(simp only[ln];omega)); rfl) (fun h9 => ?_) (fun h9 => ?_)
  · first | omega | (simp at h9; done) | (simp at h9; omega)
  · try simp only [decide_eq_true_eq, decide_eq_false_iff_not] at h9
    refine AWP.exit ?_
    refine hK2 _ ?_
    refine AWP.seqk fun K6 hK6 => ?_
    refine AWP.region (AOPS.all (by simp (disch := first|omega|(simp only[ln];omega)) [idf_Wd', Sp.av, Sp.cells, Sg.av, Sg.cells, g1]; rfl) ?_)
    refine hK6 _ ?_
    refine AWP.ret ?_
    exact hK _ _ _ _ trivial ((Fin.mk (by simp [aRes, aResL, aRes1, idf_Wd', Sp.av, Sp.cells, Sg.av, Sg.cells]; try rfl)))

theorem heldSpotS_nil (k : Int) (hk0 : 0 ≤ k) (hk1 : k ≤ 1000) : FC Try.prog 158 [.isl [], .int .i64 k] (.int .i64 k) := by
  refine FC.body Try.func158 rfl (by simp [idfL, idf, idfLL_iff, idf_Wd', Sp.av, Sp.cells, Sg.av, Sg.cells]) (by simp [idfL, idf, idfLL_iff, idf_Wd', Sp.av, Sp.cells, Sg.av, Sg.cells]) 31 rfl fun nx K hK => ?_
  refine AWP.seqk fun K1 hK1 => ?_
  refine AWP.region (AOPS.all (by simp (disch := first|omega|(simp only[ln];omega)) [idf_Wd', Sp.av, Sp.cells, Sg.av, Sg.cells]; rfl) ?_)
  refine hK1 _ ?_
  refine AWP.seqk fun K2 hK2 => ?_
  refine AWP.seqk fun K3 hK3 => ?_
  refine AWP.region (AOPS.all (by simp (disch := first|omega|(simp only[ln];omega)) [idf_Wd', Sp.av, Sp.cells, Sg.av, Sg.cells]; rfl) ?_)
  refine hK3 _ ?_
  refine AWP.block ?_
  
  refine AWP.loop (fun N s => ∃ i : Nat, N = 0 - i ∧ i ≤ 0 ∧ s.env 0 = .isl [] ∧ s.env 1 = .int .i64 k ∧ s.env 5 = .int .i64 (i : Int) ∧ s.nt = 31) (0) (⟨0, by omega, by omega, by simp (disch := omega), by simp (disch := omega), by simp (disch := omega), rfl⟩) ?_
  rintro N ⟨e, H, mm, nt⟩ ⟨i, rfl, hi, g0, g1, g5, rfl⟩
  simp only [] at g0 g1 g5
  refine AWP.seqk fun K4 hK4 => ?_
  refine AWP.seqk fun K5 hK5 => ?_
  refine AWP.region (AOPS.all (by simp (disch := first|omega|(simp only[ln];omega)) [idf_Wd', Sp.av, Sp.cells, Sg.av, Sg.cells, g0, g5]; rfl) ?_)
  refine hK5 _ ?_
  refine cond_ok _ (by simp (disch := first|omega|(simp only[ln];omega)); rfl) (fun h9 => ?_) (fun h9 => ?_)
  · first | omega | (simp at h9; done) | (simp at h9; omega)
  · try simp only [decide_eq_true_eq, decide_eq_false_iff_not] at h9
    refine AWP.exit ?_
    refine hK2 _ ?_
    refine AWP.seqk fun K6 hK6 => ?_
    refine AWP.region (AOPS.all (by simp (disch := first|omega|(simp only[ln];omega)) [idf_Wd', Sp.av, Sp.cells, Sg.av, Sg.cells, g1]; rfl) ?_)
    refine hK6 _ ?_
    refine AWP.ret ?_
    exact hK _ _ _ _ trivial ((Fin.mk (by simp [aRes, aResL, aRes1, idf_Wd', Sp.av, Sp.cells, Sg.av, Sg.cells]; try rfl)))

theorem markRing_ac (n id : Nat) (es : List (List AV)) (k : Int) (HP : Heap) (nx : Nat) (hH : HP id = some (2, es)) (hid : id < nx) (hn : es.length = n) (hw : ∀ row ∈ es, row.length = 2) (hk0 : 0 ≤ k) (hk1 : k ≤ 1000) (hn1 : n ≤ 1099511627776) : ACall Try.prog 74 [.agg [.osl id 0 n], .int .i64 k] HP nx (fun r H' nx' => r = .int .i64 (k + 2 * (n : Int)) ∧ H' id = some (2, mkR (m2 k) n) ∧ (∀ i, i < nx → i ≠ id → H' i = HP i) ∧ nx ≤ nx') := by
  refine ACall.body Try.func74 rfl 10 rfl fun K hK => ?_
  refine AWP.seqk fun K1 hK1 => ?_
  refine AWP.region (AOPS.all (by simp (disch := first|omega|(simp only[ln];omega)) [idf_Wd', Sp.av, Sp.cells, Sg.av, Sg.cells]; rfl) ?_)
  refine hK1 _ ?_
  refine AWP.seqk fun K2 hK2 => ?_
  refine AWP.region ?_
  refine AOPS.runk 3 (by simp (disch := first|omega|(simp only[ln];omega)) [List.take_succ_cons, List.take_zero, idf_Wd', Sp.av, Sp.cells, Sg.av, Sg.cells]; rfl) ?_
  simp only [List.drop_succ_cons, List.drop_zero]
  refine AOPS.acall (markSpotS_ac n id es k _ _ (by simp (disch := omega) [hH]) hn hw hk0 hk1 hn1) rfl rfl rfl hb157 (by simp (disch := first|omega|(simp only[ln];omega)) [idf_Wd', Sp.av, Sp.cells, Sg.av, Sg.cells]) (by simp (disch := first|omega|(simp only[ln];omega))) (by simp) ?_
  rintro _ _ _ ⟨rfl, rfl, rfl⟩
  simp only [puts_some, updo]
  refine AOPS.all (by simp (disch := first|omega|(simp only[ln];omega)) [idf_Wd', Sp.av, Sp.cells, Sg.av, Sg.cells]; rfl) ?_
  refine hK2 _ ?_
  refine AWP.seqk fun K3 hK3 => ?_
  refine AWP.region (AOPS.all (by simp (disch := first|omega|(simp only[ln];omega)) [idf_Wd', Sp.av, Sp.cells, Sg.av, Sg.cells]; rfl) ?_)
  refine hK3 _ ?_
  refine AWP.ret ?_
  exact hK _ _ _ _ _ trivial (Fin.mk (by simp [aRes, aResL, aRes1, idf_Wd', Sp.av, Sp.cells, Sg.av, Sg.cells]; try rfl)) (⟨rfl, by simp (disch := omega), fun i h1 h2 => by simp (disch := omega) [h2], by simp⟩)

theorem markRing_nil (k : Int) (hk0 : 0 ≤ k) (hk1 : k ≤ 1000) : FC Try.prog 74 [.agg [.isl []], .int .i64 k] (.int .i64 k) := by
  refine FC.body Try.func74 rfl (by simp [idfL, idf, idfLL_iff, idf_Wd', Sp.av, Sp.cells, Sg.av, Sg.cells]) (by simp [idfL, idf, idfLL_iff, idf_Wd', Sp.av, Sp.cells, Sg.av, Sg.cells]) 10 rfl fun nx K hK => ?_
  refine AWP.seqk fun K1 hK1 => ?_
  refine AWP.region (AOPS.all (by simp (disch := first|omega|(simp only[ln];omega)) [idf_Wd', Sp.av, Sp.cells, Sg.av, Sg.cells]; rfl) ?_)
  refine hK1 _ ?_
  refine AWP.seqk fun K2 hK2 => ?_
  refine AWP.region ?_
  refine AOPS.runk 3 (by simp (disch := first|omega|(simp only[ln];omega)) [List.take_succ_cons, List.take_zero, idf_Wd', Sp.av, Sp.cells, Sg.av, Sg.cells]; rfl) ?_
  simp only [List.drop_succ_cons, List.drop_zero]
  refine AOPS.fcall (markSpotS_nil k hk0 hk1) rfl rfl rfl hb157 (by simp (disch := first|omega|(simp only[ln];omega)) [idf_Wd', Sp.av, Sp.cells, Sg.av, Sg.cells]) (by simp (disch := first|omega|(simp only[ln];omega))) (by simp) ?_
  simp only [puts_some, updo]
  refine AOPS.all (by simp (disch := first|omega|(simp only[ln];omega)) [idf_Wd', Sp.av, Sp.cells, Sg.av, Sg.cells]; rfl) ?_
  refine hK2 _ ?_
  refine AWP.seqk fun K3 hK3 => ?_
  refine AWP.region (AOPS.all (by simp (disch := first|omega|(simp only[ln];omega)) [idf_Wd', Sp.av, Sp.cells, Sg.av, Sg.cells]; rfl) ?_)
  refine hK3 _ ?_
  refine AWP.ret ?_
  exact hK _ _ _ _ trivial ((Fin.mk (by simp [aRes, aResL, aRes1, idf_Wd', Sp.av, Sp.cells, Sg.av, Sg.cells]; try rfl)))

theorem heldRing_nil (k : Int) (hk0 : 0 ≤ k) (hk1 : k ≤ 1000) : FC Try.prog 75 [.agg [.isl []], .int .i64 k] (.int .i64 k) := by
  refine FC.body Try.func75 rfl (by simp [idfL, idf, idfLL_iff, idf_Wd', Sp.av, Sp.cells, Sg.av, Sg.cells]) (by simp [idfL, idf, idfLL_iff, idf_Wd', Sp.av, Sp.cells, Sg.av, Sg.cells]) 12 rfl fun nx K hK => ?_
  refine AWP.seqk fun K1 hK1 => ?_
  refine AWP.region (AOPS.all (by simp (disch := first|omega|(simp only[ln];omega)) [idf_Wd', Sp.av, Sp.cells, Sg.av, Sg.cells]; rfl) ?_)
  refine hK1 _ ?_
  refine AWP.seqk fun K2 hK2 => ?_
  refine AWP.region ?_
  refine AOPS.runk 3 (by simp (disch := first|omega|(simp only[ln];omega)) [List.take_succ_cons, List.take_zero, idf_Wd', Sp.av, Sp.cells, Sg.av, Sg.cells]; rfl) ?_
  simp only [List.drop_succ_cons, List.drop_zero]
  refine AOPS.fcall (heldSpotS_nil k hk0 hk1) rfl rfl rfl hb158 (by simp (disch := first|omega|(simp only[ln];omega)) [idf_Wd', Sp.av, Sp.cells, Sg.av, Sg.cells]) (by simp (disch := first|omega|(simp only[ln];omega))) (by simp) ?_
  simp only [puts_some, updo]
  refine AOPS.all (by simp (disch := first|omega|(simp only[ln];omega)) [idf_Wd', Sp.av, Sp.cells, Sg.av, Sg.cells]; rfl) ?_
  refine hK2 _ ?_
  refine AWP.seqk fun K3 hK3 => ?_
  refine AWP.seqk fun K4 hK4 => ?_
  refine AWP.region (AOPS.all (by simp (disch := first|omega|(simp only[ln];omega)) [idf_Wd', Sp.av, Sp.cells, Sg.av, Sg.cells]; rfl) ?_)
  refine hK4 _ ?_
  refine cond_ok (decide (k < 0)) (by simp (disch := first|omega|(simp only[ln];omega))) (fun h10 => ?_) (fun h10 => ?_)
  · simp at h10; omega
  · try simp only [decide_eq_true_eq, decide_eq_false_iff_not] at h10
    refine AWP.skip ?_
    refine hK3 _ ?_
    refine AWP.seqk fun K5 hK5 => ?_
    refine AWP.region (AOPS.all (by simp (disch := first|omega|(simp only[ln];omega)) [idf_Wd', Sp.av, Sp.cells, Sg.av, Sg.cells]; rfl) ?_)
    refine hK5 _ ?_
    refine AWP.ret ?_
    exact hK _ _ _ _ trivial ((Fin.mk (by simp [aRes, aResL, aRes1, idf_Wd', Sp.av, Sp.cells, Sg.av, Sg.cells]; try rfl)))

theorem cloneSp_own (p : Sp) (l : List Sp) (hl : l.length ≤ 1099511627776) (nx : Nat) : ACall Try.prog 207 [.isl ((p :: l).map Sp.cells)] (fun _ => none) nx (own1 nx 2 ((p :: l).map Sp.cells) (fun id => .osl id 0 (p :: l).length)) := by
  have hc1 : (l.length + 1) * 16 ≤ 140737488355328 := by omega
  have hc2 : l.length ≤ 9223372036854775806 := by omega
  refine ACall.body Try.func207 rfl 8 rfl fun K hK => ?_
  refine AWP.seqk fun K1 hK1 => ?_
  refine AWP.region (AOPS.all (by simp (disch := first|omega|(simp only[ln];omega)) [idf_Wd', Sp.av, Sp.cells, Sg.av, Sg.cells]; rfl) ?_)
  refine hK1 _ ?_
  refine AWP.seqk fun K2 hK2 => ?_
  refine AWP.seqk fun K3 hK3 => ?_
  refine AWP.region ?_
  refine AOPS.runk 1 (by simp (disch := first|omega|(simp only[ln];omega)) [List.take_succ_cons, List.take_zero, idf_Wd', Sp.av, Sp.cells, Sg.av, Sg.cells]; rfl) ?_
  simp only [List.drop_succ_cons, List.drop_zero]
  refine AOPS.isnilG (c0 := .int .i64 p.x) (cs := [.int .i64 p.y]) (r := l.map Sp.cells) rfl unT60 (by simp) (by simp) (by simp) ?_
  simp only [puts_some]
  refine AOPS.nil ?_
  refine hK3 _ ?_
  refine cond_ok _ (by simp (disch := first|omega|(simp only[ln];omega)); rfl) (fun h4 => ?_) (fun h4 => ?_)
  · simp at h4
  · try simp only [decide_eq_true_eq, decide_eq_false_iff_not] at h4
    refine AWP.skip ?_
    refine hK2 _ ?_
    refine AWP.seqk fun K4 hK4 => ?_
    refine AWP.region ?_
    refine AOPS.runk 2 (by simp (disch := first|omega|(simp only[ln];omega)) [List.take_succ_cons, List.take_zero, idf_Wd', Sp.av, Sp.cells, Sg.av, Sg.cells]; rfl) ?_
    simp only [List.drop_succ_cons, List.drop_zero]
    refine AOPS.opapp (by simp (disch := first|omega|(simp only[ln];omega)) [opApp.eq_def, aSrc_isl, aSrc_osl, aSrc_nsl, aSrc_int, wd_app, wd_app2, if_pos, wd_append, wd_take, wd_drop, List.nil_append, idf_Wd', Sp.av, Sp.cells, Sg.av, Sg.cells, hc1, hc2, src_Wd' (P := Try.prog) elT60]; first | rfl | exact ⟨rfl, rfl⟩ | exact ⟨rfl, rfl, rfl⟩) (by simp) (by simp) ?_
    simp only [puts_some, hdrop]
    refine AOPS.all (by simp (disch := first|omega|(simp only[ln];omega)) [idf_Wd', Sp.av, Sp.cells, Sg.av, Sg.cells]; rfl) ?_
    refine hK4 _ ?_
    refine AWP.ret ?_
    exact hK _ _ _ _ _ trivial (Fin.own1 (Fin.mk (by simp (disch := omega) [aRes, aResL, aRes1, idf_Wd', Sp.av, Sp.cells, Sg.av, Sg.cells]; try rfl)) (id := (nx + 1)) (by simp (disch := omega) [Sp.cells])) (⟨(nx + 1), by first | omega | (simp; done) | (simp; omega), by first | omega | (simp; done) | (simp; omega), rfl, rfl⟩)

set_option maxHeartbeats 2000000 in
theorem reverseSp_ac (l : List Sp) (s m id : Nat) (HP : Heap) (nx : Nat) (hH : HP id = some (2, l.map Sp.cells)) (hid : id < nx) (hs : s + m ≤ l.length) (hl : l.length ≤ 1099511627776) : ACall Try.prog 208 [.osl id s m] HP nx (fun r H' nx' => r = .tup [] ∧ (∃ i, m ≤ 2 * i + 1 ∧ H' = hupd HP id (some (2, (revI l s m i).map Sp.cells))) ∧ nx ≤ nx') := by
  refine ACall.body Try.func208 rfl 28 rfl fun K hK => ?_
  refine AWP.seqk fun K1 hK1 => ?_
  refine AWP.region (AOPS.all (by simp (disch := first|omega|(simp only[ln];omega)) [idf_Wd', Sp.av, Sp.cells, Sg.av, Sg.cells, hH]; rfl) ?_)
  refine hK1 _ ?_
  refine AWP.block ?_
  
  refine AWP.loop (fun N st => ∃ i : Nat, N = m - i ∧ i ≤ m ∧ (st.heap = hupd HP id (some (2, (revI l s m i).map Sp.cells))) ∧ (nx ≤ st.nx) ∧ st.env 0 = .osl id s m ∧ st.env 2 = .int .i64 (i : Int) ∧ st.env 3 = .int .i64 ((m : Int) - 1 - (i : Int)) ∧ st.nt = 28) (m) (⟨0, by omega, by omega, by rw [revI_zero]; exact (hupd_id hH).symm, Nat.le_refl _, by simp (disch := omega), by simp (disch := omega), by simp (disch := omega) <;> omega, rfl⟩) ?_
  rintro N ⟨e, H, mm, nt⟩ ⟨i, rfl, hi, rfl, hnx, g0, g2, g3, rfl⟩
  simp only [] at g0 g2 g3
  refine AWP.seqk fun K2 hK2 => ?_
  refine AWP.seqk fun K3 hK3 => ?_
  refine AWP.region (AOPS.all (by simp (disch := first|omega|(simp only[ln];omega)) [idf_Wd', Sp.av, Sp.cells, Sg.av, Sg.cells, g2, g3]; rfl) ?_)
  refine hK3 _ ?_
  refine cond_ok _ (by simp (disch := first|omega|(simp only[ln];omega)); rfl) (fun h9 => ?_) (fun h9 => ?_)
  · try simp only [decide_eq_true_eq, decide_eq_false_iff_not] at h9
    simp only [] at hnx
    have hi' : 2 * i + 1 < m := by omega
    obtain ⟨j, hj⟩ : ∃ j : Nat, j = m - 1 - i := ⟨_, rfl⟩
    have hji : (m : Int) - 1 - i = j := by omega
    have hlo : ((revI l s m i).map Sp.cells)[s + i]? = some [.int .i64 (gs l (s + i)).x, .int .i64 (gs l (s + i)).y] := by rw [List.getElem?_map, revI_lo hs hi']; rfl
    have hhi : ((revI l s m i).map Sp.cells)[s + j]? = some [.int .i64 (gs l (s + j)).x, .int .i64 (gs l (s + j)).y] := by rw [hj, List.getElem?_map, revI_hi hs hi']; rfl
    have hset : (((revI l s m i).map Sp.cells).set (s + i) [.int .i64 (gs l (s + j)).x, .int .i64 (gs l (s + j)).y]).set (s + j) [.int .i64 (gs l (s + i)).x, .int .i64 (gs l (s + i)).y] = (revI l s m (i + 1)).map Sp.cells := by
      rw [← revI_step hs hi', ← hj, List.map_set, List.map_set]; rfl
    have hcl : ((revI l s m i).map Sp.cells).length = l.length := by rw [List.length_map, revI_len]
    generalize (revI l s m i).map Sp.cells = C at *
    have hh2 : ∀ x, (C.set (s + i) x)[s + j]? = some [.int .i64 (gs l (s + j)).x, .int .i64 (gs l (s + j)).y] := fun x => by rw [List.getElem?_set_ne (by omega)]; exact hhi
    have hgI : ∀ h : s + i < C.length, C[s + i] = [.int .i64 (gs l (s + i)).x, .int .i64 (gs l (s + i)).y] := fun h => by rw [List.getElem?_eq_getElem h] at hlo; simpa using hlo
    have hgJ : ∀ h : s + j < C.length, C[s + j] = [.int .i64 (gs l (s + j)).x, .int .i64 (gs l (s + j)).y] := fun h => by rw [List.getElem?_eq_getElem h] at hhi; simpa using hhi
    have hgK : ∀ (x : List AV) (h : s + j < (C.set (s + i) x).length), (C.set (s + i) x)[s + j] = [.int .i64 (gs l (s + j)).x, .int .i64 (gs l (s + j)).y] := fun x h => by have := hh2 x; rw [List.getElem?_eq_getElem h] at this; simpa using this
    have hil : s + i < l.length := by omega
    have hjl : s + j < l.length := by omega
    refine AWP.skip ?_
    refine hK2 _ ?_
    refine AWP.seqk fun K4 hK4 => ?_
    refine AWP.block ?_
    refine AWP.old fun hold => ?_
    refine AWP.draw 13 Try.checked.mixed (by kernel_rfl) (by simp) ?_
    simp only [List.take_succ_cons, List.take_zero, List.drop_succ_cons, List.drop_zero]
    refine DP.runFk 2 (by simp (disch := first|omega|(simp only[ln];omega)) [runDf.eq_def, runF1, runF2, stepF.eq_def, updo.eq_def, hupo.eq_def, opSto1.eq_def, List.take_succ_cons, List.take_zero, if_pos, idf_Wd', Sp.av, Sp.cells, Sg.av, Sg.cells, g0, g2, g3, hji, hlo, hhi, hh2, hcl, hgI, hgJ, hgK, hil, hjl, List.length_set]; rfl) fun fs5 hfs5 => ?_
    replace hfs5 : fs5.length = 2 := hfs5.trans rfl
    simp only [List.drop_succ_cons, List.drop_zero]
    refine DP.runF1q (by simp (disch := first|omega|(simp only[ln];omega)) [runDf.eq_def, runF1, runF2, stepF.eq_def, updo.eq_def, hupo.eq_def, opSto1.eq_def, if_pos, idf_Wd', Sp.av, Sp.cells, Sg.av, Sg.cells, g0, g2, g3, hji, hlo, hhi, hh2, hcl, hgI, hgJ, hgK, hil, hjl, List.length_set]; rfl) fun fq6 hfq6 => ?_
    simp [qids, asksB, Op.operands, topId] at hfq6
    simp only [updo]
    refine DP.runF1q (by simp (disch := first|omega|(simp only[ln];omega)) [runDf.eq_def, runF1, runF2, stepF.eq_def, updo.eq_def, hupo.eq_def, opSto1.eq_def, if_pos, idf_Wd', Sp.av, Sp.cells, Sg.av, Sg.cells, g0, g2, g3, hji, hlo, hhi, hh2, hcl, hgI, hgJ, hgK, hil, hjl, List.length_set]; rfl) fun fq7 hfq7 => ?_
    simp [qids, asksB, Op.operands, topId] at hfq7
    simp only [updo]
    refine DP.runFk 9 (by simp (disch := first|omega|(simp only[ln];omega)) [runDf.eq_def, runF1, runF2, stepF.eq_def, updo.eq_def, hupo.eq_def, opSto1.eq_def, List.take_succ_cons, List.take_zero, if_pos, idf_Wd', Sp.av, Sp.cells, Sg.av, Sg.cells, g0, g2, g3, hji, hlo, hhi, hh2, hcl, hgI, hgJ, hgK, hil, hjl, List.length_set]; rfl) fun fs8 hfs8 => ?_
    replace hfs8 : fs8.length = 9 := hfs8.trans rfl
    simp only [List.drop_succ_cons, List.drop_zero]
    refine DQ.stoT (m := 13) [2, 3] _ (by simp (disch := first|omega|(simp only[ln];omega)) [runDf.eq_def, runF1, runF2, stepF.eq_def, updo.eq_def, hupo.eq_def, opSto1.eq_def, if_pos, idf_Wd', Sp.av, Sp.cells, Sg.av, Sg.cells, g0, g2, g3, hji, hlo, hhi, hh2, hcl, hgI, hgJ, hgK, hil, hjl, List.length_set]; rfl) rfl (by simp only [List.length_append, List.length_cons, List.length_nil, hfs5, hfs8]; omega) (by kernel_rfl) (by intro k f hk hex; simp only [List.mem_cons, List.not_mem_nil, or_false] at hex; rcases hex with rfl | rfl <;> (simp [List.getElem?_append, hfs5, hfs8] at hk; subst hk; refine ⟨?_, by first | omega | (simp; done) | (simp; omega)⟩; simp [qids, asksB, Op.operands, Call.operands, topId, numS, numI, Wd, hfq6, hfq7, g0, g2, g3]; try omega)) ?_
    try simp only []
    refine DQ.val1 _ (by simp (disch := first|omega|(simp only[ln];omega)) [runDf.eq_def, runF1, runF2, stepF.eq_def, updo.eq_def, hupo.eq_def, opSto1.eq_def, if_pos, idf_Wd', Sp.av, Sp.cells, Sg.av, Sg.cells, g0, g2, g3, hji, hlo, hhi, hh2, hcl, hgI, hgJ, hgK, hil, hjl, List.length_set]; rfl) rfl ?_
    simp only [updo]
    refine DQ.stoT (m := 13) [] _ (by simp (disch := first|omega|(simp only[ln];omega)) [runDf.eq_def, runF1, runF2, stepF.eq_def, updo.eq_def, hupo.eq_def, opSto1.eq_def, if_pos, idf_Wd', Sp.av, Sp.cells, Sg.av, Sg.cells, g0, g2, g3, hji, hlo, hhi, hh2, hcl, hgI, hgJ, hgK, hil, hjl, List.length_set]; rfl) rfl (by simp only [List.length_append, List.length_cons, List.length_nil, hfs5, hfs8]; omega) (by kernel_rfl) (by intro k f hk hex; simp only [List.not_mem_nil] at hex) ?_
    try simp only []
    refine hK4 _ ?_
    refine AWP.region (AOPS.all (by simp (disch := first|omega|(simp only[ln];omega)) [idf_Wd', Sp.av, Sp.cells, Sg.av, Sg.cells, g2, g3]; rfl) ?_)
    refine ⟨m - (i + 1), by omega, i + 1, rfl, by omega, by simp [hupd_same, hset], by simp; omega, by simp (disch := omega) [g0, g2, g3], by simp (disch := omega) [g0, g2, g3], by simp (disch := omega) [g0, g2, g3] <;> omega, rfl⟩
  · try simp only [decide_eq_true_eq, decide_eq_false_iff_not] at h9
    refine AWP.exit ?_
    exact hK _ _ _ _ _ trivial (Fin.mk (by simp [aRes, aResL, aRes1, idf_Wd', Sp.av, Sp.cells, Sg.av, Sg.cells]; try rfl)) (⟨rfl, ⟨i, by omega, rfl⟩, hnx⟩)

set_option maxHeartbeats 1000000 in
theorem turned_own (r : List Sp) (hl0 : 1 ≤ r.length) (hl : r.length ≤ 1099511627776) (nx : Nat) : ACall Try.prog 156 [.agg [.isl (r.map Sp.cells)]] (fun _ => none) nx (own1 nx 2 ((turnR r).map Sp.cells) (fun id => .agg [.osl id 0 r.length])) := by
  obtain ⟨p, l, rfl⟩ : ∃ p l, r = p :: l := by
    cases r with
    | nil => simp at hl0
    | cons p l => exact ⟨p, l, rfl⟩
  have hl' : l.length ≤ 1099511627776 := by simp at hl; omega
  obtain ⟨n, hn⟩ : ∃ n, (p :: l).length = n := ⟨_, rfl⟩
  obtain ⟨R0, hR0⟩ : ∃ R0, p :: l = R0 := ⟨_, rfl⟩
  have hcl := fun nx => cloneSp_own p l hl' nx
  rw [hR0] at hcl hn ⊢
  rw [hn] at hcl ⊢
  have hn1 : 1 ≤ n := by rw [← hn, ← hR0]; simp
  have hn2 : n ≤ 1099511627776 := by rw [← hn, ← hR0]; exact hl
  have hml : (List.map Sp.cells R0).length = n := by rw [List.length_map]; exact hn
  refine ACall.body Try.func156 rfl 12 rfl fun K hK => ?_
  refine AWP.seqk fun K1 hK1 => ?_
  refine AWP.region (AOPS.all (by simp (disch := first|omega|(simp only[ln];omega)) [idf_Wd', Sp.av, Sp.cells, Sg.av, Sg.cells]; rfl) ?_)
  refine hK1 _ ?_
  refine AWP.seqk fun K2 hK2 => ?_
  refine AWP.region ?_
  refine AOPS.runk 2 (by simp (disch := first|omega|(simp only[ln];omega)) [List.take_succ_cons, List.take_zero, idf_Wd', Sp.av, Sp.cells, Sg.av, Sg.cells]; rfl) ?_
  simp only [List.drop_succ_cons, List.drop_zero]
  refine AOPS.ocallL 4 (hcl _) rfl rfl rfl hb207 (by simp (disch := first|omega|(simp only[ln];omega)) [lv, idf_Wd', lv_sp, lv_sg, lv_m2, lv_int, lv_bool, lv_nsl, List.map_map, Sp.av, Sp.cells, Sg.av, Sg.cells]) (⟨fun _ h => by simp [nwr, nwrL]; try exact h, by simp [nwr, nwrL, Sp.cells, Sg.cells]⟩) (by simp (disch := first|omega|(simp only[ln];omega))) (by simp) ?_
  intro id nx2 hi1 hi2
  simp only [] at hi1 hi2
  simp only [puts_some, updo]
  refine AOPS.all (by simp (disch := first|omega|(simp only[ln];omega)) [idf_Wd', Sp.av, Sp.cells, Sg.av, Sg.cells]; rfl) ?_
  refine hK2 _ ?_
  refine AWP.seqk fun K3 hK3 => ?_
  refine AWP.region ?_
  refine AOPS.runk 2 (by simp (disch := first|omega|(simp only[ln];omega)) [List.take_succ_cons, List.take_zero, if_pos, idf_Wd', Sp.av, Sp.cells, Sg.av, Sg.cells, hn, hn1, hml]; rfl) ?_
  simp only [List.drop_succ_cons, List.drop_zero]
  refine AOPS.acall (reverseSp_ac R0 1 (n - 1) id _ _ (by simp (disch := omega)) (by first | omega | (simp; omega)) (by omega) (by omega)) rfl rfl rfl hb208 (by simp (disch := first|omega|(simp only[ln];omega)) [idf_Wd', hn, hn1, hml, Sp.av, Sp.cells, Sg.av, Sg.cells]) (by simp (disch := first|omega|(simp only[ln];omega)) [hn, hn1, hml]) (by simp) ?_
  rintro _ _ nx3 ⟨rfl, ⟨i, hi, rfl⟩, hnx3⟩
  simp only [] at hnx3
  have hre := revI_end (l := R0) (i := i) (by omega) (by omega)
  rw [hn] at hre
  rw [hre]
  simp only [puts_some, updo]
  refine AOPS.nil ?_
  refine hK3 _ ?_
  refine AWP.seqk fun K4 hK4 => ?_
  refine AWP.region (AOPS.all (by simp (disch := first|omega|(simp only[ln];omega)) [idf_Wd', Sp.av, Sp.cells, Sg.av, Sg.cells]; rfl) ?_)
  refine hK4 _ ?_
  refine AWP.ret ?_
  exact hK _ _ _ _ _ trivial (Fin.own1 (Fin.mk (by simp (disch := omega) [aRes, aResL, aRes1, idf_Wd', Sp.av, Sp.cells, Sg.av, Sg.cells]; try rfl)) (id := id) (by simp (disch := omega))) (⟨id, by first | omega | (simp; done) | (simp; omega), by first | omega | (simp; done) | (simp; omega), rfl, rfl⟩)

set_option maxHeartbeats 1000000 in
theorem ringTurned_own (r : List Sp) (hl : r.length ≤ 1099511627776) (hz : rgF r = 0) (nx : Nat) : ACall Try.prog 73 [.agg [.isl (r.map Sp.cells)]] (fun _ => none) nx (own1 nx 2 ((turnR r).map Sp.cells) (fun id => .agg [.osl id 0 r.length])) := by
  obtain ⟨z1, z2, _⟩ := rgF_zero hz
  have hd : decide (rgF r = 0) = true := decide_eq_true hz
  refine ACall.body Try.func73 rfl 9 rfl fun K hK => ?_
  refine AWP.seqk fun K1 hK1 => ?_
  refine AWP.region (AOPS.all (by simp (disch := first|omega|(simp only[ln];omega)) [idf_Wd', Sp.av, Sp.cells, Sg.av, Sg.cells]; rfl) ?_)
  refine hK1 _ ?_
  refine AWP.seqk fun K2 hK2 => ?_
  refine AWP.seqk fun K3 hK3 => ?_
  refine AWP.region ?_
  refine AOPS.runk 1 (by simp (disch := first|omega|(simp only[ln];omega)) [List.take_succ_cons, List.take_zero, idf_Wd', Sp.av, Sp.cells, Sg.av, Sg.cells, hd]; rfl) ?_
  simp only [List.drop_succ_cons, List.drop_zero]
  refine AOPS.fcall (isRing_fc r hl) rfl rfl rfl hb151 (by simp (disch := first|omega|(simp only[ln];omega)) [idf_Wd', hd, Sp.av, Sp.cells, Sg.av, Sg.cells]) (by simp (disch := first|omega|(simp only[ln];omega)) [hd]) (by simp) ?_
  simp only [puts_some, updo]
  refine AOPS.all (by simp (disch := first|omega|(simp only[ln];omega)) [idf_Wd', Sp.av, Sp.cells, Sg.av, Sg.cells, hd]; rfl) ?_
  refine hK3 _ ?_
  refine cond_ok _ (by simp (disch := first|omega|(simp only[ln];omega)); rfl) (fun h5 => ?_) (fun h5 => ?_)
  · simp at h5
  · try simp only [decide_eq_true_eq, decide_eq_false_iff_not] at h5
    refine AWP.skip ?_
    refine hK2 _ ?_
    refine AWP.seqk fun K4 hK4 => ?_
    refine AWP.region ?_
    refine AOPS.runk 1 (by simp (disch := first|omega|(simp only[ln];omega)) [List.take_succ_cons, List.take_zero, idf_Wd', Sp.av, Sp.cells, Sg.av, Sg.cells]; rfl) ?_
    simp only [List.drop_succ_cons, List.drop_zero]
    refine AOPS.ocallL 4 (turned_own r (by omega) hl _) rfl rfl rfl hb156 (by simp (disch := first|omega|(simp only[ln];omega)) [lv, idf_Wd', lv_sp, lv_sg, lv_m2, lv_int, lv_bool, lv_nsl, List.map_map, Sp.av, Sp.cells, Sg.av, Sg.cells]) (⟨fun _ h => by simp [nwr, nwrL]; try exact h, by simp [nwr, nwrL, Sp.cells, Sg.cells]⟩) (by simp (disch := first|omega|(simp only[ln];omega))) (by simp) ?_
    intro id nx2 hi1 hi2
    simp only [] at hi1 hi2
    simp only [puts_some, updo]
    refine AOPS.all (by simp (disch := first|omega|(simp only[ln];omega)) [idf_Wd', Sp.av, Sp.cells, Sg.av, Sg.cells]; rfl) ?_
    refine hK4 _ ?_
    refine AWP.ret ?_
    exact hK _ _ _ _ _ trivial (Fin.own1 (Fin.mk (by simp (disch := omega) [aRes, aResL, aRes1, idf_Wd', Sp.av, Sp.cells, Sg.av, Sg.cells]; try rfl)) (id := id) (by simp (disch := omega))) (⟨id, by first | omega | (simp; done) | (simp; omega), by first | omega | (simp; done) | (simp; omega), rfl, rfl⟩)

theorem ringTurned_no (r : List Sp) (hl : r.length ≤ 1099511627776) (hz : ¬ rgF r = 0) : FC Try.prog 73 [.agg [.isl (r.map Sp.cells)]] (.agg [.nsl]) := by
  have hd : decide (rgF r = 0) = false := decide_eq_false hz
  refine FC.body Try.func73 rfl (by simp [idfL, idf, idfLL_iff, Sp.av, Sp.cells, Sg.av, Sg.cells]) (by simp [idfL, idf, idfLL_iff, idf_Wd', Sp.av, Sp.cells, Sg.av, Sg.cells]) 9 rfl fun nx K hK => ?_
  refine AWP.seqk fun K1 hK1 => ?_
  refine AWP.region (AOPS.all (by simp (disch := first|omega|(simp only[ln];omega)) [idf_Wd', Sp.av, Sp.cells, Sg.av, Sg.cells]; rfl) ?_)
  refine hK1 _ ?_
  refine AWP.seqk fun K2 hK2 => ?_
  refine AWP.seqk fun K3 hK3 => ?_
  refine AWP.region ?_
  refine AOPS.runk 1 (by simp (disch := first|omega|(simp only[ln];omega)) [List.take_succ_cons, List.take_zero, idf_Wd', Sp.av, Sp.cells, Sg.av, Sg.cells, hd]; rfl) ?_
  simp only [List.drop_succ_cons, List.drop_zero]
  refine AOPS.fcall (isRing_fc r hl) rfl rfl rfl hb151 (by simp (disch := first|omega|(simp only[ln];omega)) [idf_Wd', hd, Sp.av, Sp.cells, Sg.av, Sg.cells]) (by simp (disch := first|omega|(simp only[ln];omega)) [hd]) (by simp) ?_
  simp only [puts_some, updo]
  refine AOPS.all (by simp (disch := first|omega|(simp only[ln];omega)) [idf_Wd', Sp.av, Sp.cells, Sg.av, Sg.cells, hd]; rfl) ?_
  refine hK3 _ ?_
  refine cond_ok _ (by simp (disch := first|omega|(simp only[ln];omega)); rfl) (fun h5 => ?_) (fun h5 => ?_)
  · try simp only [decide_eq_true_eq, decide_eq_false_iff_not] at h5
    refine AWP.seqk fun K4 hK4 => ?_
    refine AWP.region (AOPS.all (by simp (disch := first|omega|(simp only[ln];omega)) [idf_Wd', Sp.av, Sp.cells, Sg.av, Sg.cells]; rfl) ?_)
    refine hK4 _ ?_
    refine AWP.ret ?_
    exact hK _ _ _ _ trivial ((Fin.mk (by simp (disch := omega) [aRes, aResL, aRes1, idf_Wd', Sp.av, Sp.cells, Sg.av, Sg.cells]; try rfl)))
  · simp at h5

theorem ringTurnedS_no (r : List Sp) (hl : r.length ≤ 1099511627776) (hz : ¬ rgF r = 0) : FC Try.prog 72 [.agg [.isl (r.map Sp.cells)]] (.agg [.nsl]) := by
  have hd : decide (rgF r = 0) = false := decide_eq_false hz
  refine FC.body Try.func72 rfl (by simp [idfL, idf, idfLL_iff, Sp.av, Sp.cells, Sg.av, Sg.cells]) (by simp [idfL, idf, idfLL_iff, idf_Wd', Sp.av, Sp.cells, Sg.av, Sg.cells]) 32 rfl fun nx K hK => ?_
  refine AWP.seqk fun K1 hK1 => ?_
  refine AWP.region (AOPS.all (by simp (disch := first|omega|(simp only[ln];omega)) [idf_Wd', Sp.av, Sp.cells, Sg.av, Sg.cells]; rfl) ?_)
  refine hK1 _ ?_
  refine AWP.seqk fun K2 hK2 => ?_
  refine AWP.seqk fun K3 hK3 => ?_
  refine AWP.region ?_
  refine AOPS.runk 1 (by simp (disch := first|omega|(simp only[ln];omega)) [List.take_succ_cons, List.take_zero, idf_Wd', Sp.av, Sp.cells, Sg.av, Sg.cells, hd]; rfl) ?_
  simp only [List.drop_succ_cons, List.drop_zero]
  refine AOPS.fcall (l5Ok_fc r hl) rfl rfl rfl hb149 (by simp (disch := first|omega|(simp only[ln];omega)) [idf_Wd', hd, Sp.av, Sp.cells, Sg.av, Sg.cells]) (by simp (disch := first|omega|(simp only[ln];omega)) [hd]) (by simp) ?_
  simp only [puts_some, updo]
  refine AOPS.all (by simp (disch := first|omega|(simp only[ln];omega)) [idf_Wd', Sp.av, Sp.cells, Sg.av, Sg.cells, hd]; rfl) ?_
  refine hK3 _ ?_
  refine cond_ok _ (by simp (disch := first|omega|(simp only[ln];omega)); rfl) (fun h7 => ?_) (fun h7 => ?_)
  · try simp only [decide_eq_true_eq, decide_eq_false_iff_not] at h7
    refine AWP.seqk fun K4 hK4 => ?_
    refine AWP.region (AOPS.all (by simp (disch := first|omega|(simp only[ln];omega)) [idf_Wd', Sp.av, Sp.cells, Sg.av, Sg.cells]; rfl) ?_)
    refine hK4 _ ?_
    refine AWP.ret ?_
    exact hK _ _ _ _ trivial ((Fin.mk (by simp (disch := omega) [aRes, aResL, aRes1, idf_Wd', Sp.av, Sp.cells, Sg.av, Sg.cells]; try rfl)))
  · simp at h7

set_option maxHeartbeats 1000000 in
theorem ringTurnedS_fc (r : List Sp) (hl : r.length ≤ 1099511627776) (hz : rgF r = 0) : FC Try.prog 72 [.agg [.isl (r.map Sp.cells)]] (.agg [.isl ((turnR r).map Sp.cells)]) := by
  obtain ⟨z1, z2, _⟩ := rgF_zero hz
  have hd : decide (rgF r = 0) = true := decide_eq_true hz
  have hat0 := rg_at (r := r) (i := 0) (by omega)
  have hte := turnS_end (l := r) (by omega)
  refine FC.body Try.func72 rfl (by simp [idfL, idf, idfLL_iff, Sp.av, Sp.cells, Sg.av, Sg.cells]) (by simp [idfL, idf, idfLL_iff, Sp.av, Sp.cells, Sg.av, Sg.cells]) 32 rfl fun nx K hK => ?_
  refine AWP.seqk fun K1 hK1 => ?_
  refine AWP.region (AOPS.all (by simp (disch := first|omega|(simp only[ln];omega)) [idf_Wd', Sp.av, Sp.cells, Sg.av, Sg.cells]; rfl) ?_)
  refine hK1 _ ?_
  refine AWP.seqk fun K2 hK2 => ?_
  refine AWP.seqk fun K3 hK3 => ?_
  refine AWP.region ?_
  refine AOPS.runk 1 (by simp (disch := first|omega|(simp only[ln];omega)) [List.take_succ_cons, List.take_zero, idf_Wd', Sp.av, Sp.cells, Sg.av, Sg.cells, hd]; rfl) ?_
  simp only [List.drop_succ_cons, List.drop_zero]
  refine AOPS.fcall (l5Ok_fc r hl) rfl rfl rfl hb149 (by simp (disch := first|omega|(simp only[ln];omega)) [idf_Wd', hd, Sp.av, Sp.cells, Sg.av, Sg.cells]) (by simp (disch := first|omega|(simp only[ln];omega)) [hd]) (by simp) ?_
  simp only [puts_some, updo]
  refine AOPS.all (by simp (disch := first|omega|(simp only[ln];omega)) [idf_Wd', Sp.av, Sp.cells, Sg.av, Sg.cells, hd]; rfl) ?_
  refine hK3 _ ?_
  refine cond_ok _ (by simp (disch := first|omega|(simp only[ln];omega)); rfl) (fun h7 => ?_) (fun h7 => ?_)
  · simp at h7
  · try simp only [decide_eq_true_eq, decide_eq_false_iff_not] at h7
    refine AWP.skip ?_
    refine hK2 _ ?_
    refine AWP.seqk fun K4 hK4 => ?_
    refine AWP.region (AOPS.all (by simp (disch := first|omega|(simp only[ln];omega)) [if_pos, idf_Wd', Sp.av, Sp.cells, Sg.av, Sg.cells, hat0, List.length_map]; rfl) ?_)
    refine hK4 _ ?_
    refine AWP.seqk fun K5 hK5 => ?_
    refine AWP.seqk fun K6 hK6 => ?_
    refine AWP.region (AOPS.all (by simp (disch := first|omega|(simp only[ln];omega)) [idf_Wd', Sp.av, Sp.cells, Sg.av, Sg.cells, List.length_map]; rfl) ?_)
    refine hK6 _ ?_
    refine AWP.block ?_
    
    refine AWP.loop (fun N s => ∃ k : Nat, ∃ id : Nat, N = (r.length - 1) - k ∧ k ≤ (r.length - 1) ∧ (nx + 1 < id) ∧ s.env 1 = .ptr nx 0 0 ∧ s.env 2 = .ptr (nx + 1) 0 0 ∧ s.env 3 = .osl id 0 (k + 1) ∧ s.env 4 = .int .i64 ((r.length : Int) - 1 - (k : Int)) ∧ s.heap nx = some (1, [[.isl (r.map Sp.cells)]]) ∧ nx < s.nx ∧ s.heap (nx + 1) = some (1, [[.nsl]]) ∧ (nx + 1) < s.nx ∧ s.heap id = some (2, (turnS r k).map Sp.cells) ∧ id < s.nx ∧ s.nt = 32) ((r.length - 1)) (⟨0, (nx + 1 + 1), by omega, by omega, by omega, by simp (disch := omega) [turnS, Sp.cells], by simp (disch := omega) [turnS, Sp.cells], by simp (disch := omega) [turnS, Sp.cells], by simp (disch := omega) [turnS, Sp.cells] <;> omega, by simp (disch := omega) [turnS, Sp.cells], by first | omega | (simp; done) | (simp; omega), by simp (disch := omega) [turnS, Sp.cells], by first | omega | (simp; done) | (simp; omega), by simp (disch := omega) [turnS, Sp.cells], by first | omega | (simp; done) | (simp; omega), rfl⟩) ?_
    rintro N ⟨e, H, mm, nt⟩ ⟨k, id, rfl, hk, hid, g1, g2, g3, g4, Hr, xr, Hz, xz, Ho, xo, rfl⟩
    simp only [] at g1 g2 g3 g4 Hr xr Hz xz Ho xo
    refine AWP.seqk fun K7 hK7 => ?_
    refine AWP.seqk fun K8 hK8 => ?_
    refine AWP.region (AOPS.all (by simp (disch := first|omega|(simp only[ln];omega)) [idf_Wd', Sp.av, Sp.cells, Sg.av, Sg.cells, g4]; rfl) ?_)
    refine hK8 _ ?_
    refine cond_ok _ (by simp (disch := first|omega|(simp only[ln];omega)); rfl) (fun h19 => ?_) (fun h19 => ?_)
    · try simp only [decide_eq_true_eq, decide_eq_false_iff_not] at h19
      have hk' : k < r.length - 1 := by omega
      obtain ⟨j, hj⟩ : ∃ j : Nat, j = r.length - 1 - k := ⟨_, rfl⟩
      have hji : (r.length : Int) - 1 - k = j := by omega
      have hat := rg_at (r := r) (i := j) (by omega)
      have hst : (turnS r (k + 1)).map Sp.cells = (turnS r k).map Sp.cells ++ [[.int .i64 (gs r j).x, .int .i64 (gs r j).y]] := by rw [turnS_step, List.map_append, hj]; rfl
      have htl := turnS_len r k
      have htk2 : List.take (k + 1) (List.map Sp.cells (turnS r k)) = List.map Sp.cells (turnS r k) := List.take_of_length_le (by rw [List.length_map]; omega)
      have hc1 : (k + 1 + 1) * 16 ≤ 140737488355328 := by omega
      have hc2 : k ≤ 9223372036854775805 := by omega
      refine AWP.skip ?_
      refine hK7 _ ?_
      refine AWP.seqk fun K9 hK9 => ?_
      refine AWP.block ?_
      refine AWP.region ?_
      refine AOPS.runk 7 (by simp (disch := first|omega|(simp only[ln];omega)) [List.take_succ_cons, List.take_zero, if_pos, idf_Wd', Sp.av, Sp.cells, Sg.av, Sg.cells, g1, g3, g4, Hr, Ho, hji, hat, htl, hc1, hc2, List.length_map]; rfl) ?_
      simp only [List.drop_succ_cons, List.drop_zero]
      refine AOPS.opapp (by simp (disch := first|omega|(simp only[ln];omega)) [opApp.eq_def, aSrc_isl, aSrc_osl, aSrc_nsl, aSrc_int, wd_app, wd_app2, if_pos, wd_append, wd_take, wd_drop, List.nil_append, idf_Wd', Sp.av, Sp.cells, Sg.av, Sg.cells, g1, g3, g4, Hr, Ho, hji, hat, htl, hc1, hc2, List.length_map, src_Wd' (P := Try.prog) elT60]; first | rfl | exact ⟨rfl, rfl⟩ | exact ⟨rfl, rfl, rfl⟩) (by simp) (by simp) ?_
      simp only [puts_some, hdrop]
      refine AOPS.all (by simp (disch := first|omega|(simp only[ln];omega)) [if_pos, idf_Wd', Sp.av, Sp.cells, Sg.av, Sg.cells, g1, g3, g4, Hr, Ho, hji, hat, htl, hc1, hc2, List.length_map]; rfl) ?_
      refine hK9 _ ?_
      refine AWP.region (AOPS.all (by simp (disch := first|omega|(simp only[ln];omega)) [idf_Wd', Sp.av, Sp.cells, Sg.av, Sg.cells, g4]; rfl) ?_)
      refine ⟨(r.length - 1) - (k + 1), by omega, k + 1, (mm + 1), rfl, by omega, by omega, by simp (disch := omega) [g1, g2, g3, g4, Hr, Hz, Ho, hst, htk2], by simp (disch := omega) [g1, g2, g3, g4, Hr, Hz, Ho, hst, htk2], by simp (disch := omega) [g1, g2, g3, g4, Hr, Hz, Ho, hst, htk2], by simp (disch := omega) [g1, g2, g3, g4, Hr, Hz, Ho, hst, htk2] <;> omega, by simp (disch := omega) [g1, g2, g3, g4, Hr, Hz, Ho, hst, htk2], by first | omega | (simp; done) | (simp; omega), by simp (disch := omega) [g1, g2, g3, g4, Hr, Hz, Ho, hst, htk2], by first | omega | (simp; done) | (simp; omega), by simp (disch := omega) [g1, g2, g3, g4, Hr, Hz, Ho, hst, htk2], by first | omega | (simp; done) | (simp; omega), rfl⟩
    · try simp only [decide_eq_true_eq, decide_eq_false_iff_not] at h19
      have hke : k = r.length - 1 := by omega
      subst hke
      rw [hte] at Ho
      have hkl : r.length - 1 + 1 = r.length := by omega
      rw [hkl] at g3
      refine AWP.exit ?_
      refine hK5 _ ?_
      refine AWP.seqk fun K10 hK10 => ?_
      refine AWP.region (AOPS.all (by simp (disch := first|omega|(simp only[ln];omega)) [idf_Wd', Sp.av, Sp.cells, Sg.av, Sg.cells, g2, g3, Hz]; rfl) ?_)
      refine hK10 _ ?_
      refine AWP.ret ?_
      exact hK _ _ _ _ trivial (((Fin.mk (r := .agg [.osl id 0 r.length]) (by simp (disch := omega) [aRes, aResL, aRes1, g2, idf_Wd', Sp.av, Sp.cells, Sg.av, Sg.cells]; try rfl)).freeze (id := id) (z := 2) (es := (turnR r).map Sp.cells) (by simp (disch := omega) [Ho])).cast (by simp only [fz, fzL]; exact congrArg (fun x => AV.agg [x]) (by have := fz_fill (id := id) Sp.cells (turnR r) (turnR_len r).symm; simpa [fz] using this)))

end Go.Proofs.Ytmaebeknmiomnaa
