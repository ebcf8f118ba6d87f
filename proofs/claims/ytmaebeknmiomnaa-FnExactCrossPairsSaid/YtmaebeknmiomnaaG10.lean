/- Walks: where segments meet, by the reference; FnExactMeet. -/
import Derived.Test.YtmaebeknmiomnaaG0Z

namespace Go.Proofs.Ytmaebeknmiomnaa
open Go Go.RowKit
set_option linter.unusedSimpArgs false
set_option linter.unusedVariables false
set_option maxRecDepth 100000
attribute [local simp] List.getElem?_cons_zero List.getElem?_cons_succ List.getElem?_toArray runOps stepOp.eq_def agd.eq_def dstOk.eq_def opVal.eq_def opNew.eq_def opSto.eq_def ev.eq_def cv.eq_def puts_some puts_none upd_ap lst.eq_def aBin.eq_def aUn.eq_def aBi_str aBi_isl aBi_osl aBi_nsl aBi_max aBi_min aBi_max3 aConv.eq_def aLd.eq_def aLoad.eq_def aField.eq_def aFld.eq_def aIdx_isl aIdx_osl aSlc_isl aSlc_osl aSlc_str aSlc_nsl bnd.eq_def evs_nil evs_cons aBuild.eq_def aFill splice.eq_def cells_agg cells_int cells_bool cells_str cells_nil cells_nsl cells_isl cells_osl cells_ptr cells_ip cells_fn cells_Wd one_int one_bool one_str one_nil one_nsl one_isl one_osl one_ptr one_ip one_fn one_Wd aSets hupd_eq hupd_ne wrap_i64s wrap_u64s wrap_u32s wrap_u8s wd_getD wd_set wd_len wd_replicate wd_one wd_fold fz_osl hupd_same aSix.eq_def aEqS.eq_def aEqB_bool aEqB_nsl aEqB_nil
attribute [local simp] szT2 byT2 agT2 unT2 zoT2 szT4 byT4 agT4 unT4 zoT4 szT67 byT67 agT67 flT67 fdT67_0 fdT67_1 zoT67 szT69 byT69 agT69 flT69 fdT69_0 fdT69_1 zoT69 szT111 byT111 agT111 elT111 unT111 zoT111 szT113 byT113 agT113 flT113 fdT113_0 fdT113_1 zoT113 szT115 byT115 agT115 flT115 fdT115_0 fdT115_1 fdT115_2 zoT115

def z3 : AV := .agg [.bool false, .nsl, .bool false, .nsl, .bool false, .nsl]
def nX (u v : Sg) : Int := nrm (denS u v) (wayX2 u v) / gcd3 (wayX2 u v) (wayY2 u v) (denS u v)
def nY (u v : Sg) : Int := nrm (denS u v) (wayY2 u v) / gcd3 (wayX2 u v) (wayY2 u v) (denS u v)
def nW (u v : Sg) : Int := nrm (denS u v) (denS u v) / gcd3 (wayX2 u v) (wayY2 u v) (denS u v)
def l4V (u v : Sg) : AV := if crs u.a u.b v.a = 0 ∧ crs u.a u.b v.b = 0 then (if lsS (highS u v) (lowS u v) = true then .tup [.int .i64 0, z3, z3] else if lowS u v = highS u v then .tup [.int .i64 1, l3A (lowS u v).x (lowS u v).y 1, z3] else .tup [.int .i64 2, l3A (lowS u v).x (lowS u v).y 1, l3A (highS u v).x (highS u v).y 1])
  else if noWay u v = true then .tup [.int .i64 0, z3, z3] else .tup [.int .i64 1, l3A (nX u v) (nY u v) (nW u v), z3]
theorem idf_l4V (u v : Sg) : idf (l4V u v) := by
  unfold l4V; repeat' split
  all_goals simp [idf, idfL, z3, l3A, l3C, idf_Wd']
theorem sg0 {z : Int} (h : z = 0) : (sg3 z == 0) = true := by simp [sg3_zero, h]
theorem sg1 {z : Int} (h : ¬ z = 0) : (sg3 z == 0) = false := by simp [sg3_zero, h]
theorem den_ne {u v : Sg} (gu : u.good = true) (gv : v.good = true) (h0 : ¬ (crs u.a u.b v.a = 0 ∧ crs u.a u.b v.b = 0)) (h : ¬ noWay u v = true) : denS u v ≠ 0 := by
  have := (way_apart (good_ls gu) (good_ls gv) h0 (by simpa using h)).1
  rw [den_w]; omega
theorem low_good {u v : Sg} (gu : u.good = true) (gv : v.good = true) : (lowS u v).good = true := by unfold lowS; split; exact good_a gv; exact good_a gu
theorem high_good {u v : Sg} (gu : u.good = true) (gv : v.good = true) : (highS u v).good = true := by unfold highS; split; exact good_b gv; exact good_b gu

theorem l1In_fc (n a b : Int) : FC Try.prog 199 [.int .i64 n, .int .i64 a, .int .i64 b] (.bool (decide (a ≤ n) && decide (n ≤ b))) := by
  refine FC.body Try.func199 rfl (by simp [idfL, idf, idfLL_iff, idf_Wd']) (by simp [idfL, idf, idfLL_iff, idf_Wd']) 15 rfl fun nx K hK => ?_
  refine AWP.seqk fun K1 hK1 => ?_
  refine AWP.region (AOPS.all (by simp (disch := first|omega|(simp only[ln];omega)) [idf_Wd']; rfl) ?_)
  refine hK1 _ ?_
  refine AWP.seqk fun K2 hK2 => ?_
  cases h : decide (a ≤ n)
  · refine AWP.region (AOPS.all (by simp (disch := first|omega|(simp only[ln];omega)) [idf_Wd', h]; rfl) ?_)
    refine hK2 _ ?_
    refine AWP.ret ?_
    exact hK _ _ _ _ trivial ((Fin.mk (by simp [aRes, aResL, aRes1, idf_Wd']; rfl)).cast (by rw [h]; rfl))
  · refine AWP.region (AOPS.all (by simp (disch := first|omega|(simp only[ln];omega)) [idf_Wd', h]; rfl) ?_)
    refine hK2 _ ?_
    refine AWP.ret ?_
    exact hK _ _ _ _ trivial ((Fin.mk (by simp [aRes, aResL, aRes1, idf_Wd']; rfl)).cast (by rw [h]; rfl))

theorem l1InM_fc (n : Int) : FC Try.prog 199 [.int .i64 n, .int .i64 (-1000000), .int .i64 1000000] (.bool (inM n)) := l1In_fc n (-1000000) 1000000
theorem spotOkS_fc (p : Sp) : FC Try.prog 114 [p.av] (.bool p.good) := by
  refine FC.body Try.func114 rfl (by simp [idfL, idf, Sp.av, Sp.cells, Sg.av, Sg.cells]) (by simp [idfL, idf, idfLL_iff, idf_Wd', Sp.av, Sp.cells, Sg.av, Sg.cells]) 11 rfl fun nx K hK => ?_
  refine AWP.seqk fun K1 hK1 => ?_
  refine AWP.region (AOPS.all (by simp (disch := first|omega|(simp only[ln];omega)) [idf_Wd', Sp.av, Sp.cells, Sg.av, Sg.cells]; rfl) ?_)
  refine hK1 _ ?_
  refine AWP.seqk fun K2 hK2 => ?_
  cases hx : inM p.x
  · refine AWP.region ?_
    refine AOPS.runk 2 (by simp (disch := first|omega|(simp only[ln];omega)) [List.take_succ_cons, List.take_zero, idf_Wd', Sp.av, Sp.cells, Sg.av, Sg.cells, hx]; rfl) ?_
    simp only [List.drop_succ_cons, List.drop_zero]
    refine AOPS.fcall (l1InM_fc p.x) rfl rfl rfl hb199 (by simp (disch := first|omega|(simp only[ln];omega)) [idf_Wd', hx, Sp.av, Sp.cells, Sg.av, Sg.cells]) (by simp (disch := first|omega|(simp only[ln];omega)) [hx]) (by simp) ?_
    simp only [puts_some, updo]
    refine AOPS.all (by simp (disch := first|omega|(simp only[ln];omega)) [idf_Wd', Sp.av, Sp.cells, Sg.av, Sg.cells, hx]; rfl) ?_
    refine hK2 _ ?_
    refine AWP.ret ?_
    exact hK _ _ _ _ trivial ((Fin.mk (by simp [aRes, aResL, aRes1, idf_Wd', Sp.av, Sp.cells, Sg.av, Sg.cells]; rfl)).cast (by unfold Sp.good; rw [hx]; rfl))
  · refine AWP.region ?_
    refine AOPS.runk 2 (by simp (disch := first|omega|(simp only[ln];omega)) [List.take_succ_cons, List.take_zero, idf_Wd', Sp.av, Sp.cells, Sg.av, Sg.cells, hx]; rfl) ?_
    simp only [List.drop_succ_cons, List.drop_zero]
    refine AOPS.fcall (l1InM_fc p.x) rfl rfl rfl hb199 (by simp (disch := first|omega|(simp only[ln];omega)) [idf_Wd', hx, Sp.av, Sp.cells, Sg.av, Sg.cells]) (by simp (disch := first|omega|(simp only[ln];omega)) [hx]) (by simp) ?_
    simp only [puts_some, updo]
    refine AOPS.runk 3 (by simp (disch := first|omega|(simp only[ln];omega)) [List.take_succ_cons, List.take_zero, idf_Wd', Sp.av, Sp.cells, Sg.av, Sg.cells, hx]; rfl) ?_
    simp only [List.drop_succ_cons, List.drop_zero]
    refine AOPS.fcall (l1InM_fc p.y) rfl rfl rfl hb199 (by simp (disch := first|omega|(simp only[ln];omega)) [idf_Wd', hx, Sp.av, Sp.cells, Sg.av, Sg.cells]) (by simp (disch := first|omega|(simp only[ln];omega)) [hx]) (by simp) ?_
    simp only [puts_some, updo]
    refine AOPS.all (by simp (disch := first|omega|(simp only[ln];omega)) [idf_Wd', Sp.av, Sp.cells, Sg.av, Sg.cells, hx]; rfl) ?_
    refine hK2 _ ?_
    refine AWP.ret ?_
    exact hK _ _ _ _ trivial ((Fin.mk (by simp [aRes, aResL, aRes1, idf_Wd', Sp.av, Sp.cells, Sg.av, Sg.cells]; rfl)).cast (by unfold Sp.good; rw [hx]; rfl))

theorem l4Less_fc (p q : Sp) : FC Try.prog 183 [p.av, q.av] (.bool (lsS p q)) := by
  refine FC.body Try.func183 rfl (by simp [idfL, idf, Sp.av, Sp.cells, Sg.av, Sg.cells]) (by simp [idfL, idf, idfLL_iff, idf_Wd', Sp.av, Sp.cells, Sg.av, Sg.cells]) 24 rfl fun nx K hK => ?_
  refine AWP.seqk fun K1 hK1 => ?_
  refine AWP.region (AOPS.all (by simp (disch := first|omega|(simp only[ln];omega)) [idf_Wd', Sp.av, Sp.cells, Sg.av, Sg.cells]; rfl) ?_)
  refine hK1 _ ?_
  refine AWP.seqk fun K2 hK2 => ?_
  by_cases q1 : p.x < q.x
  · have hl : lsS p q = true := by simp [lsS, q1]
    have c1 : decide (p.x < q.x) = true := by simp [q1]
    refine AWP.region (AOPS.all (by simp (disch := first|omega|(simp only[ln];omega)) [idf_Wd', Sp.av, Sp.cells, Sg.av, Sg.cells, c1]; rfl) ?_)
    refine hK2 _ ?_
    refine AWP.ret ?_
    exact hK _ _ _ _ trivial ((Fin.mk (by simp [aRes, aResL, aRes1, idf_Wd', Sp.av, Sp.cells, Sg.av, Sg.cells]; rfl)).cast (by rw [hl]; try rfl))
  · have c1 : decide (p.x < q.x) = false := by simp; omega
    by_cases q2 : p.x = q.x
    · have c2 : (p.x == q.x) = true := by simp [q2]
      have hl : lsS p q = decide (p.y < q.y) := by simp [lsS, q2]
      refine AWP.region (AOPS.all (by simp (disch := first|omega|(simp only[ln];omega)) [idf_Wd', Sp.av, Sp.cells, Sg.av, Sg.cells, c1, c2]; rfl) ?_)
      refine hK2 _ ?_
      refine AWP.ret ?_
      exact hK _ _ _ _ trivial ((Fin.mk (by simp [aRes, aResL, aRes1, idf_Wd', Sp.av, Sp.cells, Sg.av, Sg.cells]; rfl)).cast (by rw [hl]))
    · have c2 : (p.x == q.x) = false := by simp [q2]
      have hl : lsS p q = false := by simp [lsS, q2]; omega
      refine AWP.region (AOPS.all (by simp (disch := first|omega|(simp only[ln];omega)) [idf_Wd', Sp.av, Sp.cells, Sg.av, Sg.cells, c1, c2]; rfl) ?_)
      refine hK2 _ ?_
      refine AWP.ret ?_
      exact hK _ _ _ _ trivial ((Fin.mk (by simp [aRes, aResL, aRes1, idf_Wd', Sp.av, Sp.cells, Sg.av, Sg.cells]; rfl)).cast (by rw [hl]; try rfl))

theorem segOkS_fc (s : Sg) : FC Try.prog 122 [s.av] (.bool s.good) := by
  refine FC.body Try.func122 rfl (by simp [idfL, idf, Sp.av, Sp.cells, Sg.av, Sg.cells]) (by simp [idfL, idf, idfLL_iff, idf_Wd', Sp.av, Sp.cells, Sg.av, Sg.cells]) 18 rfl fun nx K hK => ?_
  refine AWP.seqk fun K1 hK1 => ?_
  refine AWP.region (AOPS.all (by simp (disch := first|omega|(simp only[ln];omega)) [idf_Wd', Sp.av, Sp.cells, Sg.av, Sg.cells]; rfl) ?_)
  refine hK1 _ ?_
  refine AWP.seqk fun K2 hK2 => ?_
  cases ha : s.a.good
  · refine AWP.region ?_
    refine AOPS.runk 2 (by simp (disch := first|omega|(simp only[ln];omega)) [List.take_succ_cons, List.take_zero, idf_Wd', Sp.av, Sp.cells, Sg.av, Sg.cells, ha]; rfl) ?_
    simp only [List.drop_succ_cons, List.drop_zero]
    refine AOPS.fcall (spotOkS_fc s.a) rfl rfl rfl hb114 (by simp (disch := first|omega|(simp only[ln];omega)) [idf_Wd', ha, Sp.av, Sp.cells, Sg.av, Sg.cells]) (by simp (disch := first|omega|(simp only[ln];omega)) [ha]) (by simp) ?_
    simp only [puts_some, updo]
    refine AOPS.all (by simp (disch := first|omega|(simp only[ln];omega)) [idf_Wd', Sp.av, Sp.cells, Sg.av, Sg.cells, ha]; rfl) ?_
    refine hK2 _ ?_
    refine AWP.ret ?_
    exact hK _ _ _ _ trivial ((Fin.mk (by simp [aRes, aResL, aRes1, idf_Wd', Sp.av, Sp.cells, Sg.av, Sg.cells]; rfl)).cast (by unfold Sg.good; rw [ha]; rfl))
  · cases hb : s.b.good
    · refine AWP.region ?_
      refine AOPS.runk 2 (by simp (disch := first|omega|(simp only[ln];omega)) [List.take_succ_cons, List.take_zero, idf_Wd', Sp.av, Sp.cells, Sg.av, Sg.cells, ha, hb]; rfl) ?_
      simp only [List.drop_succ_cons, List.drop_zero]
      refine AOPS.fcall (spotOkS_fc s.a) rfl rfl rfl hb114 (by simp (disch := first|omega|(simp only[ln];omega)) [idf_Wd', ha, hb, Sp.av, Sp.cells, Sg.av, Sg.cells]) (by simp (disch := first|omega|(simp only[ln];omega)) [ha, hb]) (by simp) ?_
      simp only [puts_some, updo]
      refine AOPS.runk 3 (by simp (disch := first|omega|(simp only[ln];omega)) [List.take_succ_cons, List.take_zero, idf_Wd', Sp.av, Sp.cells, Sg.av, Sg.cells, ha, hb]; rfl) ?_
      simp only [List.drop_succ_cons, List.drop_zero]
      refine AOPS.fcall (spotOkS_fc s.b) rfl rfl rfl hb114 (by simp (disch := first|omega|(simp only[ln];omega)) [idf_Wd', ha, hb, Sp.av, Sp.cells, Sg.av, Sg.cells]) (by simp (disch := first|omega|(simp only[ln];omega)) [ha, hb]) (by simp) ?_
      simp only [puts_some, updo]
      refine AOPS.all (by simp (disch := first|omega|(simp only[ln];omega)) [idf_Wd', Sp.av, Sp.cells, Sg.av, Sg.cells, ha, hb]; rfl) ?_
      refine hK2 _ ?_
      refine AWP.ret ?_
      exact hK _ _ _ _ trivial ((Fin.mk (by simp [aRes, aResL, aRes1, idf_Wd', Sp.av, Sp.cells, Sg.av, Sg.cells]; rfl)).cast (by unfold Sg.good; rw [ha, hb]; rfl))
    · refine AWP.region ?_
      refine AOPS.runk 2 (by simp (disch := first|omega|(simp only[ln];omega)) [List.take_succ_cons, List.take_zero, idf_Wd', Sp.av, Sp.cells, Sg.av, Sg.cells, ha, hb, lsS_dec]; rfl) ?_
      simp only [List.drop_succ_cons, List.drop_zero]
      refine AOPS.fcall (spotOkS_fc s.a) rfl rfl rfl hb114 (by simp (disch := first|omega|(simp only[ln];omega)) [idf_Wd', ha, hb, lsS_dec, Sp.av, Sp.cells, Sg.av, Sg.cells]) (by simp (disch := first|omega|(simp only[ln];omega)) [ha, hb, lsS_dec]) (by simp) ?_
      simp only [puts_some, updo]
      refine AOPS.runk 3 (by simp (disch := first|omega|(simp only[ln];omega)) [List.take_succ_cons, List.take_zero, idf_Wd', Sp.av, Sp.cells, Sg.av, Sg.cells, ha, hb, lsS_dec]; rfl) ?_
      simp only [List.drop_succ_cons, List.drop_zero]
      refine AOPS.fcall (spotOkS_fc s.b) rfl rfl rfl hb114 (by simp (disch := first|omega|(simp only[ln];omega)) [idf_Wd', ha, hb, lsS_dec, Sp.av, Sp.cells, Sg.av, Sg.cells]) (by simp (disch := first|omega|(simp only[ln];omega)) [ha, hb, lsS_dec]) (by simp) ?_
      simp only [puts_some, updo]
      refine AOPS.runk 6 (by simp (disch := first|omega|(simp only[ln];omega)) [List.take_succ_cons, List.take_zero, idf_Wd', Sp.av, Sp.cells, Sg.av, Sg.cells, ha, hb, lsS_dec]; rfl) ?_
      simp only [List.drop_succ_cons, List.drop_zero]
      refine AOPS.fcall (l4Less_fc s.a s.b) rfl rfl rfl hb183 (by simp (disch := first|omega|(simp only[ln];omega)) [idf_Wd', ha, hb, lsS_dec, Sp.av, Sp.cells, Sg.av, Sg.cells]) (by simp (disch := first|omega|(simp only[ln];omega)) [ha, hb, lsS_dec]) (by simp) ?_
      simp only [puts_some, updo]
      refine AOPS.all (by simp (disch := first|omega|(simp only[ln];omega)) [idf_Wd', Sp.av, Sp.cells, Sg.av, Sg.cells, ha, hb, lsS_dec]; rfl) ?_
      refine hK2 _ ?_
      refine AWP.ret ?_
      exact hK _ _ _ _ trivial ((Fin.mk (by simp [aRes, aResL, aRes1, idf_Wd', Sp.av, Sp.cells, Sg.av, Sg.cells]; rfl)).cast (by unfold Sg.good; rw [ha, hb]; rfl))

set_option maxHeartbeats 1000000 in
theorem l4Turn_fc (a b c : Sp) (ha : a.good = true) (hb : b.good = true) (hc : c.good = true) : FC Try.prog 182 [a.av, b.av, c.av] (.int .i64 (sg3 (crs a b c))) := by
  have pa := Sp.b ha
  have pb := Sp.b hb
  have pc := Sp.b hc
  have m1 := mul_b (u := b.x - a.x) (v := c.y - a.y) (m := 2000000) (n := 2000000) (by omega) (by omega) (by omega) (by omega) (by omega)
  have m2 := mul_b (u := b.y - a.y) (v := c.x - a.x) (m := 2000000) (n := 2000000) (by omega) (by omega) (by omega) (by omega) (by omega)
  have e : (b.x - a.x) * (c.y - a.y) - (b.y - a.y) * (c.x - a.x) = crs a b c := rfl
  refine FC.body Try.func182 rfl (by simp [idfL, idf, Sp.av, Sp.cells, Sg.av, Sg.cells]) (by simp [idfL, idf, idfLL_iff, idf_Wd', Sp.av, Sp.cells, Sg.av, Sg.cells]) 35 rfl fun nx K hK => ?_
  refine AWP.seqk fun K1 hK1 => ?_
  refine AWP.region (AOPS.all (by simp (disch := first|omega|(simp only[ln];omega)) [idf_Wd', Sp.av, Sp.cells, Sg.av, Sg.cells]; rfl) ?_)
  refine hK1 _ ?_
  refine AWP.seqk fun K2 hK2 => ?_
  refine AWP.region (AOPS.all (by simp (disch := first|omega|(simp only[ln];omega)) [idf_Wd', Sp.av, Sp.cells, Sg.av, Sg.cells]; rfl) ?_)
  refine hK2 _ ?_
  refine AWP.seqk fun K3 hK3 => ?_
  refine AWP.seqk fun K4 hK4 => ?_
  refine AWP.region (AOPS.all (by simp (disch := first|omega|(simp only[ln];omega)) [idf_Wd', Sp.av, Sp.cells, Sg.av, Sg.cells, e]; rfl) ?_)
  refine hK4 _ ?_
  refine cond_ok (decide (crs a b c < 0)) (by simp (disch := first|omega|(simp only[ln];omega))) (fun h32 => ?_) (fun h32 => ?_)
  · try simp only [decide_eq_true_eq, decide_eq_false_iff_not] at h32
    refine AWP.seqk fun K5 hK5 => ?_
    refine AWP.region (AOPS.all (by simp (disch := first|omega|(simp only[ln];omega)) [idf_Wd', Sp.av, Sp.cells, Sg.av, Sg.cells]; rfl) ?_)
    refine hK5 _ ?_
    refine AWP.ret ?_
    exact hK _ _ _ _ trivial ((Fin.mk (by simp [aRes, aResL, aRes1, idf_Wd', Sp.av, Sp.cells, Sg.av, Sg.cells]; rfl)).cast (by unfold sg3; rw [if_pos h32]))
  · try simp only [decide_eq_true_eq, decide_eq_false_iff_not] at h32
    refine AWP.skip ?_
    refine hK3 _ ?_
    refine AWP.seqk fun K6 hK6 => ?_
    refine AWP.seqk fun K7 hK7 => ?_
    refine AWP.region (AOPS.all (by simp (disch := first|omega|(simp only[ln];omega)) [idf_Wd', Sp.av, Sp.cells, Sg.av, Sg.cells, e]; rfl) ?_)
    refine hK7 _ ?_
    refine cond_ok (decide (0 < crs a b c)) (by simp (disch := first|omega|(simp only[ln];omega))) (fun h34 => ?_) (fun h34 => ?_)
    · try simp only [decide_eq_true_eq, decide_eq_false_iff_not] at h34
      refine AWP.seqk fun K8 hK8 => ?_
      refine AWP.region (AOPS.all (by simp (disch := first|omega|(simp only[ln];omega)) [idf_Wd', Sp.av, Sp.cells, Sg.av, Sg.cells]; rfl) ?_)
      refine hK8 _ ?_
      refine AWP.ret ?_
      exact hK _ _ _ _ trivial ((Fin.mk (by simp [aRes, aResL, aRes1, idf_Wd', Sp.av, Sp.cells, Sg.av, Sg.cells]; rfl)).cast (by unfold sg3; rw [if_neg h32, if_pos h34]))
    · try simp only [decide_eq_true_eq, decide_eq_false_iff_not] at h34
      refine AWP.skip ?_
      refine hK6 _ ?_
      refine AWP.seqk fun K9 hK9 => ?_
      refine AWP.region (AOPS.all (by simp (disch := first|omega|(simp only[ln];omega)) [idf_Wd', Sp.av, Sp.cells, Sg.av, Sg.cells]; rfl) ?_)
      refine hK9 _ ?_
      refine AWP.ret ?_
      exact hK _ _ _ _ trivial ((Fin.mk (by simp [aRes, aResL, aRes1, idf_Wd', Sp.av, Sp.cells, Sg.av, Sg.cells]; rfl)).cast (by unfold sg3; rw [if_neg h32, if_neg h34]))

set_option maxHeartbeats 8000000 in
theorem l4Meet_fc (u v : Sg) (gu : u.good = true) (gv : v.good = true) : FC Try.prog 95 [u.av, v.av] (l4V u v) := by
  have ua := good_a gu
  have ub := good_b gu
  have va := good_a gv
  have vb := good_b gv
  have pua := Sp.b ua
  have pub := Sp.b ub
  have pva := Sp.b va
  have pvb := Sp.b vb
  have cA := l4Turn_fc u.a u.b v.a ua ub va
  have cB := l4Turn_fc u.a u.b v.b ua ub vb
  have cC := l4Turn_fc v.a v.b u.a va vb ua
  have cD := l4Turn_fc v.a v.b u.b va vb ub
  have hnw : noWay u v = (decide (0 < sg3 (crs u.a u.b v.a) * sg3 (crs u.a u.b v.b)) || decide (0 < sg3 (crs v.a v.b u.a) * sg3 (crs v.a v.b u.b))) := rfl
  have sAB := mul_sg (crs u.a u.b v.a) (crs u.a u.b v.b)
  have sCD := mul_sg (crs v.a v.b u.a) (crs v.a v.b u.b)
  obtain ⟨A, hA⟩ : ∃ A, crs u.a u.b v.a = A := ⟨_, rfl⟩
  obtain ⟨B, hB⟩ : ∃ B, crs u.a u.b v.b = B := ⟨_, rfl⟩
  rw [hA] at cA sAB hnw
  rw [hB] at cB sAB hnw
  generalize crs v.a v.b u.a = C at *
  generalize crs v.a v.b u.b = D at *
  refine FC.body Try.func95 rfl (by simp [idfL, idf, Sp.av, Sp.cells, Sg.av, Sg.cells]) (idf_l4V u v) 181 rfl fun nx K hK => ?_
  refine AWP.seqk fun K1 hK1 => ?_
  refine AWP.region (AOPS.all (by simp (disch := first|omega|(simp only[ln];omega)) [idf_Wd', idf_numS, cells_numS, numS_fold, Sp.av, Sp.cells, Sg.av, Sg.cells, l3A, l3C]; rfl) ?_)
  refine hK1 _ ?_
  refine AWP.seqk fun K2 hK2 => ?_
  refine AWP.region ?_
  refine AOPS.runk 6 (by simp (disch := first|omega|(simp only[ln];omega)) [List.take_succ_cons, List.take_zero, idf_Wd', idf_numS, cells_numS, numS_fold, Sp.av, Sp.cells, Sg.av, Sg.cells, l3A, l3C]; rfl) ?_
  simp only [List.drop_succ_cons, List.drop_zero]
  refine AOPS.fcall (cA) rfl rfl rfl hb182 (by simp (disch := first|omega|(simp only[ln];omega)) [idf_Wd', idf_numS, cells_numS, numS_fold, Sp.av, Sp.cells, Sg.av, Sg.cells, l3A, l3C]) (by simp (disch := first|omega|(simp only[ln];omega))) (by simp) ?_
  simp only [puts_some, updo]
  refine AOPS.all (by simp (disch := first|omega|(simp only[ln];omega)) [idf_Wd', idf_numS, cells_numS, numS_fold, Sp.av, Sp.cells, Sg.av, Sg.cells, l3A, l3C]; rfl) ?_
  refine hK2 _ ?_
  refine AWP.seqk fun K3 hK3 => ?_
  refine AWP.region ?_
  refine AOPS.runk 6 (by simp (disch := first|omega|(simp only[ln];omega)) [List.take_succ_cons, List.take_zero, idf_Wd', idf_numS, cells_numS, numS_fold, Sp.av, Sp.cells, Sg.av, Sg.cells, l3A, l3C]; rfl) ?_
  simp only [List.drop_succ_cons, List.drop_zero]
  refine AOPS.fcall (cB) rfl rfl rfl hb182 (by simp (disch := first|omega|(simp only[ln];omega)) [idf_Wd', idf_numS, cells_numS, numS_fold, Sp.av, Sp.cells, Sg.av, Sg.cells, l3A, l3C]) (by simp (disch := first|omega|(simp only[ln];omega))) (by simp) ?_
  simp only [puts_some, updo]
  refine AOPS.all (by simp (disch := first|omega|(simp only[ln];omega)) [idf_Wd', idf_numS, cells_numS, numS_fold, Sp.av, Sp.cells, Sg.av, Sg.cells, l3A, l3C]; rfl) ?_
  refine hK3 _ ?_
  refine AWP.seqk fun K4 hK4 => ?_
  refine AWP.region ?_
  refine AOPS.runk 6 (by simp (disch := first|omega|(simp only[ln];omega)) [List.take_succ_cons, List.take_zero, idf_Wd', idf_numS, cells_numS, numS_fold, Sp.av, Sp.cells, Sg.av, Sg.cells, l3A, l3C]; rfl) ?_
  simp only [List.drop_succ_cons, List.drop_zero]
  refine AOPS.fcall (cC) rfl rfl rfl hb182 (by simp (disch := first|omega|(simp only[ln];omega)) [idf_Wd', idf_numS, cells_numS, numS_fold, Sp.av, Sp.cells, Sg.av, Sg.cells, l3A, l3C]) (by simp (disch := first|omega|(simp only[ln];omega))) (by simp) ?_
  simp only [puts_some, updo]
  refine AOPS.all (by simp (disch := first|omega|(simp only[ln];omega)) [idf_Wd', idf_numS, cells_numS, numS_fold, Sp.av, Sp.cells, Sg.av, Sg.cells, l3A, l3C]; rfl) ?_
  refine hK4 _ ?_
  refine AWP.seqk fun K5 hK5 => ?_
  refine AWP.region ?_
  refine AOPS.runk 6 (by simp (disch := first|omega|(simp only[ln];omega)) [List.take_succ_cons, List.take_zero, idf_Wd', idf_numS, cells_numS, numS_fold, Sp.av, Sp.cells, Sg.av, Sg.cells, l3A, l3C]; rfl) ?_
  simp only [List.drop_succ_cons, List.drop_zero]
  refine AOPS.fcall (cD) rfl rfl rfl hb182 (by simp (disch := first|omega|(simp only[ln];omega)) [idf_Wd', idf_numS, cells_numS, numS_fold, Sp.av, Sp.cells, Sg.av, Sg.cells, l3A, l3C]) (by simp (disch := first|omega|(simp only[ln];omega))) (by simp) ?_
  simp only [puts_some, updo]
  refine AOPS.all (by simp (disch := first|omega|(simp only[ln];omega)) [idf_Wd', idf_numS, cells_numS, numS_fold, Sp.av, Sp.cells, Sg.av, Sg.cells, l3A, l3C]; rfl) ?_
  refine hK5 _ ?_
  refine AWP.seqk fun K6 hK6 => ?_
  refine AWP.seqk fun K7 hK7 => ?_
  by_cases hA0 : A = 0
  · have c1 := sg0 hA0
    by_cases hB0 : B = 0
    · have c2 := sg0 hB0
      have h0 : A = 0 ∧ B = 0 := ⟨hA0, hB0⟩
      refine AWP.region (AOPS.all (by simp (disch := first|omega|(simp only[ln];omega)) [idf_Wd', idf_numS, cells_numS, numS_fold, Sp.av, Sp.cells, Sg.av, Sg.cells, l3A, l3C, c1, c2]; rfl) ?_)
      refine hK7 _ ?_
      refine cond_ok _ (by simp (disch := first|omega|(simp only[ln];omega)); rfl) (fun h54 => ?_) (fun h54 => ?_)
      · try simp only [decide_eq_true_eq, decide_eq_false_iff_not] at h54
        refine AWP.seqk fun K8 hK8 => ?_
        refine AWP.region (AOPS.all (by simp (disch := first|omega|(simp only[ln];omega)) [idf_Wd', idf_numS, cells_numS, numS_fold, Sp.av, Sp.cells, Sg.av, Sg.cells, l3A, l3C]; rfl) ?_)
        refine hK8 _ ?_
        refine AWP.seqk fun K9 hK9 => ?_
        have J9 : ∀ s : St, (∃ lo : Sp, lo = lowS u v ∧ s.env 2 = .ptr nx 0 0 ∧ s.env 3 = .ptr (nx + 1) 0 0 ∧ s.env 5 = .ptr (nx + 1 + 1) 0 0 ∧ s.env 6 = .ptr (nx + 1 + 1 + 1) 0 0 ∧ s.env 11 = .ptr (nx + 1 + 1 + 1 + 1) 0 0 ∧ s.heap nx = some (4, [[.int .i64 u.a.x, .int .i64 u.a.y, .int .i64 u.b.x, .int .i64 u.b.y]]) ∧ s.heap (nx + 1) = some (4, [[.int .i64 v.a.x, .int .i64 v.a.y, .int .i64 v.b.x, .int .i64 v.b.y]]) ∧ s.heap (nx + 1 + 1) = some (6, [[.bool false, .nsl, .bool false, .nsl, .bool false, .nsl]]) ∧ s.heap (nx + 1 + 1 + 1) = some (6, [[.bool false, .nsl, .bool false, .nsl, .bool false, .nsl]]) ∧ s.heap (nx + 1 + 1 + 1 + 1) = some (2, [[.int .i64 lo.x, .int .i64 lo.y]]) ∧ (nx + 1 + 1 + 1 + 1) < s.nx ∧ s.nt = 181) → K9 s := by
          rintro ⟨e, H, mm, nt⟩ ⟨lo, hlo, g2, g3, g5, g6, g11, hU, hV, hP, hQ, hL, hm, rfl⟩
          simp only [] at g2 g3 g5 g6 g11 hU hV hP hQ hL hm
          refine hK9 _ ?_
          refine AWP.seqk fun K10 hK10 => ?_
          refine AWP.region (AOPS.all (by simp (disch := first|omega|(simp only[ln];omega)) [idf_Wd', idf_numS, cells_numS, numS_fold, Sp.av, Sp.cells, Sg.av, Sg.cells, l3A, l3C, g2, g3, g5, g6, g11, hU, hV, hP, hQ, hL]; rfl) ?_)
          refine hK10 _ ?_
          refine AWP.seqk fun K11 hK11 => ?_
          have J11 : ∀ s : St, (∃ (lo hi : Sp) (ib : Nat), lo = lowS u v ∧ hi = highS u v ∧ s.env 2 = .ptr nx 0 0 ∧ s.env 3 = .ptr (nx + 1) 0 0 ∧ s.env 5 = .ptr (nx + 1 + 1) 0 0 ∧ s.env 6 = .ptr (nx + 1 + 1 + 1) 0 0 ∧ s.env 11 = .ptr (nx + 1 + 1 + 1 + 1) 0 0 ∧ s.heap nx = some (4, [[.int .i64 u.a.x, .int .i64 u.a.y, .int .i64 u.b.x, .int .i64 u.b.y]]) ∧ s.heap (nx + 1) = some (4, [[.int .i64 v.a.x, .int .i64 v.a.y, .int .i64 v.b.x, .int .i64 v.b.y]]) ∧ s.heap (nx + 1 + 1) = some (6, [[.bool false, .nsl, .bool false, .nsl, .bool false, .nsl]]) ∧ s.heap (nx + 1 + 1 + 1) = some (6, [[.bool false, .nsl, .bool false, .nsl, .bool false, .nsl]]) ∧ s.heap (nx + 1 + 1 + 1 + 1) = some (2, [[.int .i64 lo.x, .int .i64 lo.y]]) ∧ s.env 12 = .ptr ib 0 0 ∧ s.heap ib = some (2, [[.int .i64 hi.x, .int .i64 hi.y]]) ∧ (nx + 1 + 1 + 1 + 1) < ib ∧ ib < s.nx ∧ s.nt = 181) → K11 s := by
            clear g2 g3 g5 g6 g11 hU hV hP hQ hL hm hlo lo
            rintro ⟨e, H, mm, nt⟩ ⟨lo, hi, ib, hlo, hhi, g2, g3, g5, g6, g11, hU, hV, hP, hQ, hL, g12, hI, hib, hm, rfl⟩
            simp only [] at g2 g3 g5 g6 g11 g12 hU hV hP hQ hL hI hm
            have hli : l4V u v = if lsS hi lo = true then .tup [.int .i64 0, z3, z3] else if lo = hi then .tup [.int .i64 1, l3A lo.x lo.y 1, z3] else .tup [.int .i64 2, l3A lo.x lo.y 1, l3A hi.x hi.y 1] := by unfold l4V; rw [hA, hB, if_pos h0, hlo, hhi]
            have pl := Sp.b (by rw [hlo]; exact low_good gu gv : lo.good = true)
            have ph := Sp.b (by rw [hhi]; exact high_good gu gv : hi.good = true)
            clear hlo hhi
            refine hK11 _ ?_
            refine AWP.seqk fun K12 hK12 => ?_
            refine AWP.seqk fun K13 hK13 => ?_
            refine AWP.region ?_
            refine AOPS.runk 2 (by simp (disch := first|omega|(simp only[ln];omega)) [List.take_succ_cons, List.take_zero, idf_Wd', idf_numS, cells_numS, numS_fold, Sp.av, Sp.cells, Sg.av, Sg.cells, l3A, l3C, g2, g3, g5, g6, g11, hU, hV, hP, hQ, hL, g12, hI]; rfl) ?_
            simp only [List.drop_succ_cons, List.drop_zero]
            refine AOPS.fcall (l4Less_fc hi lo) rfl rfl rfl hb183 (by simp (disch := first|omega|(simp only[ln];omega)) [idf_Wd', g2, g3, g5, g6, g11, hU, hV, hP, hQ, hL, g12, hI, idf_numS, cells_numS, numS_fold, Sp.av, Sp.cells, Sg.av, Sg.cells, l3A, l3C]) (by simp (disch := first|omega|(simp only[ln];omega)) [g2, g3, g5, g6, g11, hU, hV, hP, hQ, hL, g12, hI]) (by simp) ?_
            simp only [puts_some, updo]
            refine AOPS.nil ?_
            refine hK13 _ ?_
            refine cond_ok (lsS hi lo) (by simp (disch := first|omega|(simp only[ln];omega))) (fun h73 => ?_) (fun h73 => ?_)
            · try simp only [decide_eq_true_eq, decide_eq_false_iff_not] at h73
              refine AWP.seqk fun K14 hK14 => ?_
              refine AWP.region (AOPS.all (by simp (disch := first|omega|(simp only[ln];omega)) [idf_Wd', idf_numS, cells_numS, numS_fold, Sp.av, Sp.cells, Sg.av, Sg.cells, l3A, l3C, g2, g3, g5, g6, g11, hU, hV, hP, hQ, hL]; rfl) ?_)
              refine hK14 _ ?_
              refine AWP.ret ?_
              exact hK _ _ _ _ trivial ((Fin.mk (by simp (disch := omega) [aRes, aResL, aRes1, g5, g6, idf_Wd', idf_numS, cells_numS, numS_fold, Sp.av, Sp.cells, Sg.av, Sg.cells, l3A, l3C]; rfl)).cast (by rw [hli, if_pos h73]; rfl))
            · try simp only [decide_eq_true_eq, decide_eq_false_iff_not] at h73
              refine AWP.skip ?_
              refine hK12 _ ?_
              refine AWP.seqk fun K15 hK15 => ?_
              refine AWP.seqk fun K16 hK16 => ?_
              refine AWP.region (AOPS.all (by simp (disch := first|omega|(simp only[ln];omega)) [idf_Wd', idf_numS, cells_numS, numS_fold, Sp.av, Sp.cells, Sg.av, Sg.cells, l3A, l3C, g2, g3, g5, g6, g11, hU, hV, hP, hQ, hL, g12, hI, eqW2]; rfl) ?_)
              refine hK16 _ ?_
              refine cond_ok (decide (lo = hi)) (by simp (disch := first|omega|(simp only[ln];omega))) (fun h78 => ?_) (fun h78 => ?_)
              · try simp only [decide_eq_true_eq, decide_eq_false_iff_not] at h78
                refine AWP.seqk fun K17 hK17 => ?_
                refine AWP.region ?_
                refine AOPS.runk 1 (by simp (disch := first|omega|(simp only[ln];omega)) [List.take_succ_cons, List.take_zero, idf_Wd', idf_numS, cells_numS, numS_fold, Sp.av, Sp.cells, Sg.av, Sg.cells, l3A, l3C, g2, g3, g5, g6, g11, hU, hV, hP, hQ, hL]; rfl) ?_
                simp only [List.drop_succ_cons, List.drop_zero]
                refine AOPS.fcall (l3Spot_fc lo.x lo.y (by omega) (by omega) (by omega) (by omega)) rfl rfl rfl hb123 (by simp (disch := first|omega|(simp only[ln];omega)) [idf_Wd', g2, g3, g5, g6, g11, hU, hV, hP, hQ, hL, idf_numS, cells_numS, numS_fold, Sp.av, Sp.cells, Sg.av, Sg.cells, l3A, l3C]) (by simp (disch := first|omega|(simp only[ln];omega)) [g2, g3, g5, g6, g11, hU, hV, hP, hQ, hL]) (by simp) ?_
                simp only [puts_some, updo]
                refine AOPS.all (by simp (disch := first|omega|(simp only[ln];omega)) [idf_Wd', idf_numS, cells_numS, numS_fold, Sp.av, Sp.cells, Sg.av, Sg.cells, l3A, l3C, g2, g3, g5, g6, g11, hU, hV, hP, hQ, hL]; rfl) ?_
                refine hK17 _ ?_
                refine AWP.ret ?_
                exact hK _ _ _ _ trivial ((Fin.mk (by simp (disch := omega) [aRes, aResL, aRes1, g5, g6, idf_Wd', idf_numS, cells_numS, numS_fold, Sp.av, Sp.cells, Sg.av, Sg.cells, l3A, l3C]; rfl)).cast (by rw [hli, if_neg (by rw [h73]; simp), if_pos h78]; rfl))
              · try simp only [decide_eq_true_eq, decide_eq_false_iff_not] at h78
                refine AWP.skip ?_
                refine hK15 _ ?_
                refine AWP.seqk fun K18 hK18 => ?_
                refine AWP.old fun hold => ?_
                refine AWP.draw 4 Try.checked.mixed (by kernel_rfl) (by simp) ?_
                simp only [List.take_succ_cons, List.take_zero, List.drop_succ_cons, List.drop_zero]
                refine DP.runFk 1 (by simp (disch := first|omega|(simp only[ln];omega)) [runDf.eq_def, runF1, runF2, stepF.eq_def, updo.eq_def, hupo.eq_def, opSto1.eq_def, List.take_succ_cons, List.take_zero, idf_Wd', idf_numS, cells_numS, numS_fold, Sp.av, Sp.cells, Sg.av, Sg.cells, l3A, l3C, g2, g3, g5, g6, g11, hU, hV, hP, hQ, hL, g12, hI]; rfl) fun fs19 hfs19 => ?_
                replace hfs19 : fs19.length = 1 := hfs19.trans rfl
                simp only [List.drop_succ_cons, List.drop_zero]
                refine DP.fcall (l3Spot_fc lo.x lo.y (by omega) (by omega) (by omega) (by omega)) rfl rfl rfl hb123 (by simp (disch := first|omega|(simp only[ln];omega)) [idf_Wd', g2, g3, g5, g6, g11, hU, hV, hP, hQ, hL, g12, hI, idf_numS, cells_numS, numS_fold, Sp.av, Sp.cells, Sg.av, Sg.cells, l3A, l3C]) (by simp (disch := first|omega|(simp only[ln];omega)) [g2, g3, g5, g6, g11, hU, hV, hP, hQ, hL, g12, hI]) (by simp) ?_
                simp only [updo]
                refine DP.runF1q (by simp (disch := first|omega|(simp only[ln];omega)) [runDf.eq_def, runF1, runF2, stepF.eq_def, updo.eq_def, hupo.eq_def, opSto1.eq_def, idf_Wd', idf_numS, cells_numS, numS_fold, Sp.av, Sp.cells, Sg.av, Sg.cells, l3A, l3C, g2, g3, g5, g6, g11, hU, hV, hP, hQ, hL, g12, hI]; rfl) fun fq20 hfq20 => ?_
                simp [qids, asksB, Op.operands, topId] at hfq20
                simp only [updo]
                refine DP.fcall (l3Spot_fc hi.x hi.y (by omega) (by omega) (by omega) (by omega)) rfl rfl rfl hb123 (by simp (disch := first|omega|(simp only[ln];omega)) [idf_Wd', g2, g3, g5, g6, g11, hU, hV, hP, hQ, hL, g12, hI, idf_numS, cells_numS, numS_fold, Sp.av, Sp.cells, Sg.av, Sg.cells, l3A, l3C]) (by simp (disch := first|omega|(simp only[ln];omega)) [g2, g3, g5, g6, g11, hU, hV, hP, hQ, hL, g12, hI]) (by simp) ?_
                simp only [updo]
                refine DQ.asg1 _ rfl rfl ?_
                simp only [updo]
                refine DQ.sto1 (m := 4) [2, 3] _ (by simp (disch := first|omega|(simp only[ln];omega)) [runDf.eq_def, runF1, runF2, stepF.eq_def, updo.eq_def, hupo.eq_def, opSto1.eq_def, idf_Wd', idf_numS, cells_numS, numS_fold, Sp.av, Sp.cells, Sg.av, Sg.cells, l3A, l3C, g2, g3, g5, g6, g11, hU, hV, hP, hQ, hL, g12, hI]; rfl) rfl (by simp only [List.length_append, List.length_cons, List.length_nil, hfs19]; omega) (by kernel_rfl) (by intro k f hk hex; simp only [List.mem_cons, List.not_mem_nil, or_false] at hex; rcases hex with rfl | rfl <;> (simp [List.getElem?_append, hfs19] at hk; subst hk; refine ⟨?_, by first | omega | (simp; done) | (simp; omega)⟩; simp [qids, asksB, Op.operands, Call.operands, topId, numS, numI, Wd, hfq20, g2, g3, g5, g6, g11, g12]; try omega)) ?_
                try simp only []
                refine DQ.sto1 (m := 4) [] _ (by simp (disch := first|omega|(simp only[ln];omega)) [runDf.eq_def, runF1, runF2, stepF.eq_def, updo.eq_def, hupo.eq_def, opSto1.eq_def, idf_Wd', idf_numS, cells_numS, numS_fold, Sp.av, Sp.cells, Sg.av, Sg.cells, l3A, l3C, g2, g3, g5, g6, g11, hU, hV, hP, hQ, hL, g12, hI]; rfl) rfl (by simp only [List.length_append, List.length_cons, List.length_nil, hfs19]; omega) (by kernel_rfl) (by intro k f hk hex; simp only [List.not_mem_nil] at hex) ?_
                try simp only []
                refine hK18 _ ?_
                refine AWP.ret ?_
                exact hK _ _ _ _ trivial ((Fin.mk (by simp (disch := omega) [aRes, aResL, aRes1, g5, g6, idf_Wd', idf_numS, cells_numS, numS_fold, Sp.av, Sp.cells, Sg.av, Sg.cells, l3A, l3C]; rfl)).cast (by rw [hli, if_neg (by rw [h73]; simp), if_neg h78]; rfl))
          refine AWP.seqk fun K21 hK21 => ?_
          refine AWP.region ?_
          refine AOPS.runk 3 (by simp (disch := first|omega|(simp only[ln];omega)) [List.take_succ_cons, List.take_zero, idf_Wd', idf_numS, cells_numS, numS_fold, Sp.av, Sp.cells, Sg.av, Sg.cells, l3A, l3C, g2, g3, g5, g6, g11, hU, hV, hP, hQ, hL]; rfl) ?_
          simp only [List.drop_succ_cons, List.drop_zero]
          refine AOPS.fcall (l4Less_fc v.b u.b) rfl rfl rfl hb183 (by simp (disch := first|omega|(simp only[ln];omega)) [idf_Wd', g2, g3, g5, g6, g11, hU, hV, hP, hQ, hL, idf_numS, cells_numS, numS_fold, Sp.av, Sp.cells, Sg.av, Sg.cells, l3A, l3C]) (by simp (disch := first|omega|(simp only[ln];omega)) [g2, g3, g5, g6, g11, hU, hV, hP, hQ, hL]) (by simp) ?_
          simp only [puts_some, updo]
          refine AOPS.nil ?_
          refine hK21 _ ?_
          refine cond_ok (lsS v.b u.b) (by simp (disch := first|omega|(simp only[ln];omega))) (fun h68 => ?_) (fun h68 => ?_)
          · try simp only [decide_eq_true_eq, decide_eq_false_iff_not] at h68
            refine AWP.region (AOPS.all (by simp (disch := first|omega|(simp only[ln];omega)) [idf_Wd', idf_numS, cells_numS, numS_fold, Sp.av, Sp.cells, Sg.av, Sg.cells, l3A, l3C, g2, g3, g5, g6, g11, hU, hV, hP, hQ, hL]; rfl) ?_)
            refine J11 _ ?_
            exact ⟨lo, v.b, mm, hlo, by unfold highS; rw [if_pos h68], by simp [g2, g3, g5, g6, g11], by simp [g2, g3, g5, g6, g11], by simp [g2, g3, g5, g6, g11], by simp [g2, g3, g5, g6, g11], by simp [g2, g3, g5, g6, g11], by simp (disch := omega) [hU, hV, hP, hQ, hL], by simp (disch := omega) [hU, hV, hP, hQ, hL], by simp (disch := omega) [hU, hV, hP, hQ, hL], by simp (disch := omega) [hU, hV, hP, hQ, hL], by simp (disch := omega) [hU, hV, hP, hQ, hL], by simp, by simp (disch := omega), by omega, by first | omega | (simp; done) | (simp; omega), rfl⟩
          · try simp only [decide_eq_true_eq, decide_eq_false_iff_not] at h68
            refine AWP.skip ?_
            refine J11 _ ?_
            exact ⟨lo, u.b, mm, hlo, by unfold highS; rw [h68]; rfl, by simp [g2, g3, g5, g6, g11], by simp [g2, g3, g5, g6, g11], by simp [g2, g3, g5, g6, g11], by simp [g2, g3, g5, g6, g11], by simp [g2, g3, g5, g6, g11], by simp (disch := omega) [hU, hV, hP, hQ, hL], by simp (disch := omega) [hU, hV, hP, hQ, hL], by simp (disch := omega) [hU, hV, hP, hQ, hL], by simp (disch := omega) [hU, hV, hP, hQ, hL], by simp (disch := omega) [hU, hV, hP, hQ, hL], by simp, by simp (disch := omega), by omega, by first | omega | (simp; done) | (simp; omega), rfl⟩
        refine AWP.seqk fun K22 hK22 => ?_
        refine AWP.region ?_
        refine AOPS.runk 3 (by simp (disch := first|omega|(simp only[ln];omega)) [List.take_succ_cons, List.take_zero, idf_Wd', idf_numS, cells_numS, numS_fold, Sp.av, Sp.cells, Sg.av, Sg.cells, l3A, l3C]; rfl) ?_
        simp only [List.drop_succ_cons, List.drop_zero]
        refine AOPS.fcall (l4Less_fc u.a v.a) rfl rfl rfl hb183 (by simp (disch := first|omega|(simp only[ln];omega)) [idf_Wd', idf_numS, cells_numS, numS_fold, Sp.av, Sp.cells, Sg.av, Sg.cells, l3A, l3C]) (by simp (disch := first|omega|(simp only[ln];omega))) (by simp) ?_
        simp only [puts_some, updo]
        refine AOPS.nil ?_
        refine hK22 _ ?_
        refine cond_ok (lsS u.a v.a) (by simp (disch := first|omega|(simp only[ln];omega))) (fun h60 => ?_) (fun h60 => ?_)
        · try simp only [decide_eq_true_eq, decide_eq_false_iff_not] at h60
          refine AWP.region (AOPS.all (by simp (disch := first|omega|(simp only[ln];omega)) [idf_Wd', idf_numS, cells_numS, numS_fold, Sp.av, Sp.cells, Sg.av, Sg.cells, l3A, l3C]; rfl) ?_)
          refine J9 _ ?_
          exact ⟨v.a, by unfold lowS; rw [if_pos h60], by simp, by simp, by simp, by simp, by simp, by simp (disch := omega), by simp (disch := omega), by simp (disch := omega), by simp (disch := omega), by simp (disch := omega), by first | omega | (simp; done) | (simp; omega), rfl⟩
        · try simp only [decide_eq_true_eq, decide_eq_false_iff_not] at h60
          refine AWP.skip ?_
          refine J9 _ ?_
          exact ⟨u.a, by unfold lowS; rw [h60]; rfl, by simp, by simp, by simp, by simp, by simp, by simp (disch := omega), by simp (disch := omega), by simp (disch := omega), by simp (disch := omega), by simp (disch := omega), by first | omega | (simp; done) | (simp; omega), rfl⟩
      · simp at h54
    · have c2 := sg1 hB0
      have h0 : ¬ (A = 0 ∧ B = 0) := fun h => hB0 h.2
      refine AWP.region (AOPS.all (by simp (disch := first|omega|(simp only[ln];omega)) [idf_Wd', idf_numS, cells_numS, numS_fold, Sp.av, Sp.cells, Sg.av, Sg.cells, l3A, l3C, c1, c2]; rfl) ?_)
      refine hK7 _ ?_
      refine cond_ok _ (by simp (disch := first|omega|(simp only[ln];omega)); rfl) (fun h54 => ?_) (fun h54 => ?_)
      · simp at h54
      · try simp only [decide_eq_true_eq, decide_eq_false_iff_not] at h54
        refine AWP.skip ?_
        refine hK6 _ ?_
        refine AWP.seqk fun K23 hK23 => ?_
        refine AWP.seqk fun K24 hK24 => ?_
        cases q3 : decide (0 < sg3 A * sg3 B)
        · refine AWP.region (AOPS.all (by simp (disch := first|omega|(simp only[ln];omega)) [idf_Wd', idf_numS, cells_numS, numS_fold, Sp.av, Sp.cells, Sg.av, Sg.cells, l3A, l3C, q3]; rfl) ?_)
          refine hK24 _ ?_
          refine cond_ok (decide (0 < sg3 C * sg3 D)) (by simp (disch := first|omega|(simp only[ln];omega))) (fun h95 => ?_) (fun h95 => ?_)
          · try simp only [decide_eq_true_eq, decide_eq_false_iff_not] at h95
            have hw : noWay u v = true := by rw [hnw, q3]; simp [h95]
            refine AWP.seqk fun K25 hK25 => ?_
            refine AWP.region (AOPS.all (by simp (disch := first|omega|(simp only[ln];omega)) [idf_Wd', idf_numS, cells_numS, numS_fold, Sp.av, Sp.cells, Sg.av, Sg.cells, l3A, l3C]; rfl) ?_)
            refine hK25 _ ?_
            refine AWP.ret ?_
            exact hK _ _ _ _ trivial ((Fin.mk (by simp [aRes, aResL, aRes1, idf_Wd', idf_numS, cells_numS, numS_fold, Sp.av, Sp.cells, Sg.av, Sg.cells, l3A, l3C]; rfl)).cast (by unfold l4V; rw [hA, hB, if_neg h0, if_pos hw]; try rfl))
          · try simp only [decide_eq_true_eq, decide_eq_false_iff_not] at h95
            have hw : ¬ noWay u v = true := by rw [hnw, q3]; simp; omega
            have m1 := mul_b (u := u.b.x - u.a.x) (v := v.b.y - v.a.y) (m := 2000000) (n := 2000000) (by omega) (by omega) (by omega) (by omega) (by omega)
            have m2 := mul_b (u := u.b.y - u.a.y) (v := v.b.x - v.a.x) (m := 2000000) (n := 2000000) (by omega) (by omega) (by omega) (by omega) (by omega)
            have m3 := mul_b (u := v.a.x - u.a.x) (v := v.b.y - v.a.y) (m := 2000000) (n := 2000000) (by omega) (by omega) (by omega) (by omega) (by omega)
            have m4 := mul_b (u := v.a.y - u.a.y) (v := v.b.x - v.a.x) (m := 2000000) (n := 2000000) (by omega) (by omega) (by omega) (by omega) (by omega)
            have hdn := den_ne gu gv (by rw [hA, hB]; exact h0) hw
            have eD : denS u v = (u.b.x - u.a.x) * (v.b.y - v.a.y) - (u.b.y - u.a.y) * (v.b.x - v.a.x) := rfl
            have eN : numT u v = (v.a.x - u.a.x) * (v.b.y - v.a.y) - (v.a.y - u.a.y) * (v.b.x - v.a.x) := rfl
            have b1 : Bg 1 u.a.x := Bg.i64 (by omega) (by omega)
            have b2 : Bg 1 u.a.y := Bg.i64 (by omega) (by omega)
            have b3 : Bg 1 (denS u v) := Bg.i64 (by rw [eD]; omega) (by rw [eD]; omega)
            have b4 : Bg 1 (numT u v) := Bg.i64 (by rw [eN]; omega) (by rw [eN]; omega)
            have b5 : Bg 1 (u.b.x - u.a.x) := Bg.i64 (by omega) (by omega)
            have b6 : Bg 1 (u.b.y - u.a.y) := Bg.i64 (by omega) (by omega)
            have i1 := l1Int_fc (denS u v) (by rw [eD]; omega) (by rw [eD]; omega)
            have i2 := l1Int_fc (numT u v) (by rw [eN]; omega) (by rw [eN]; omega)
            rw [eD] at i1
            rw [eN] at i2
            have x1 := l1Mul_fc b1 b3 (by omega) (by omega)
            have x2 := l1Mul_fc b5 b4 (by omega) (by omega)
            have x3 := l1Add_fc (b1.mul b3) (b5.mul b4) (by omega) (by omega)
            have y1 := l1Mul_fc b2 b3 (by omega) (by omega)
            have y2 := l1Mul_fc b6 b4 (by omega) (by omega)
            have y3 := l1Add_fc (b2.mul b3) (b6.mul b4) (by omega) (by omega)
            have l3 := l3Make_fc (j := 3) (wayX2 u v) (wayY2 u v) (denS u v) hdn (((b1.mul b3).add (b5.mul b4)).le (by omega)) (((b2.mul b3).add (b6.mul b4)).le (by omega)) (b3.le (by omega)) (by omega) (by omega)
            unfold wayX2 wayY2 at l3
            rw [eD] at x1 x3 y1 y3
            rw [eN] at x2 x3 y2 y3
            simp only [eD, eN] at l3
            have eV : l3A (nX u v) (nY u v) (nW u v) = l3A (nX u v) (nY u v) (nW u v) := rfl
            unfold nX nY nW wayX2 wayY2 at eV
            simp only [eD, eN] at eV
            have hl4 : l4V u v = .tup [.int .i64 1, l3A (nX u v) (nY u v) (nW u v), z3] := by unfold l4V; rw [hA, hB, if_neg h0, if_neg hw]
            unfold nX nY nW wayX2 wayY2 at hl4
            simp only [eD, eN] at hl4
            clear b3 b4 eV
            refine AWP.skip ?_
            refine hK23 _ ?_
            refine AWP.seqk fun K26 hK26 => ?_
            refine AWP.region (AOPS.all (by simp (disch := first|omega|(simp only[ln];omega)) [idf_Wd', idf_numS, cells_numS, numS_fold, Sp.av, Sp.cells, Sg.av, Sg.cells, l3A, l3C]; rfl) ?_)
            refine hK26 _ ?_
            refine AWP.seqk fun K27 hK27 => ?_
            refine AWP.region (AOPS.all (by simp (disch := first|omega|(simp only[ln];omega)) [idf_Wd', idf_numS, cells_numS, numS_fold, Sp.av, Sp.cells, Sg.av, Sg.cells, l3A, l3C]; rfl) ?_)
            refine hK27 _ ?_
            refine AWP.seqk fun K28 hK28 => ?_
            refine AWP.region (AOPS.all (by simp (disch := first|omega|(simp only[ln];omega)) [idf_Wd', idf_numS, cells_numS, numS_fold, Sp.av, Sp.cells, Sg.av, Sg.cells, l3A, l3C]; rfl) ?_)
            refine hK28 _ ?_
            refine AWP.seqk fun K29 hK29 => ?_
            refine AWP.region (AOPS.all (by simp (disch := first|omega|(simp only[ln];omega)) [idf_Wd', idf_numS, cells_numS, numS_fold, Sp.av, Sp.cells, Sg.av, Sg.cells, l3A, l3C]; rfl) ?_)
            refine hK29 _ ?_
            refine AWP.seqk fun K30 hK30 => ?_
            refine AWP.region ?_
            refine AOPS.runk 7 (by simp (disch := first|omega|(simp only[ln];omega)) [List.take_succ_cons, List.take_zero, idf_Wd', idf_numS, cells_numS, numS_fold, Sp.av, Sp.cells, Sg.av, Sg.cells, l3A, l3C]; rfl) ?_
            simp only [List.drop_succ_cons, List.drop_zero]
            refine AOPS.fcall (i1) rfl rfl rfl hb106 (by simp (disch := first|omega|(simp only[ln];omega)) [idf_Wd', idf_numS, cells_numS, numS_fold, Sp.av, Sp.cells, Sg.av, Sg.cells, l3A, l3C]) (by simp (disch := first|omega|(simp only[ln];omega))) (by simp) ?_
            simp only [puts_some, updo]
            refine AOPS.all (by simp (disch := first|omega|(simp only[ln];omega)) [idf_Wd', idf_numS, cells_numS, numS_fold, Sp.av, Sp.cells, Sg.av, Sg.cells, l3A, l3C]; rfl) ?_
            refine hK30 _ ?_
            refine AWP.seqk fun K31 hK31 => ?_
            refine AWP.region ?_
            refine AOPS.runk 19 (by simp (disch := first|omega|(simp only[ln];omega)) [List.take_succ_cons, List.take_zero, idf_Wd', idf_numS, cells_numS, numS_fold, Sp.av, Sp.cells, Sg.av, Sg.cells, l3A, l3C]; rfl) ?_
            simp only [List.drop_succ_cons, List.drop_zero]
            refine AOPS.fcall (i2) rfl rfl rfl hb106 (by simp (disch := first|omega|(simp only[ln];omega)) [idf_Wd', idf_numS, cells_numS, numS_fold, Sp.av, Sp.cells, Sg.av, Sg.cells, l3A, l3C]) (by simp (disch := first|omega|(simp only[ln];omega))) (by simp) ?_
            simp only [puts_some, updo]
            refine AOPS.all (by simp (disch := first|omega|(simp only[ln];omega)) [idf_Wd', idf_numS, cells_numS, numS_fold, Sp.av, Sp.cells, Sg.av, Sg.cells, l3A, l3C]; rfl) ?_
            refine hK31 _ ?_
            refine AWP.seqk fun K32 hK32 => ?_
            refine AWP.draw 12 Try.checked.mixed (by kernel_rfl) (by simp) ?_
            simp only [List.take_succ_cons, List.take_zero, List.drop_succ_cons, List.drop_zero]
            refine DP.runFk 3 (by simp (disch := first|omega|(simp only[ln];omega)) [runDf.eq_def, runF1, runF2, stepF.eq_def, updo.eq_def, hupo.eq_def, opSto1.eq_def, List.take_succ_cons, List.take_zero, idf_Wd', idf_numS, cells_numS, numS_fold, Sp.av, Sp.cells, Sg.av, Sg.cells, l3A, l3C]; rfl) fun fs33 hfs33 => ?_
            replace hfs33 : fs33.length = 3 := hfs33.trans rfl
            simp only [List.drop_succ_cons, List.drop_zero]
            refine DP.fcall (l1Int_fc u.a.x (by omega) (by omega)) rfl rfl rfl hb106 (by simp (disch := first|omega|(simp only[ln];omega)) [idf_Wd', idf_numS, cells_numS, numS_fold, Sp.av, Sp.cells, Sg.av, Sg.cells, l3A, l3C]) (by simp (disch := first|omega|(simp only[ln];omega))) (by simp) ?_
            simp only [updo]
            refine DP.runFk 1 (by simp (disch := first|omega|(simp only[ln];omega)) [runDf.eq_def, runF1, runF2, stepF.eq_def, updo.eq_def, hupo.eq_def, opSto1.eq_def, List.take_succ_cons, List.take_zero, idf_Wd', idf_numS, cells_numS, numS_fold, Sp.av, Sp.cells, Sg.av, Sg.cells, l3A, l3C]; rfl) fun fs34 hfs34 => ?_
            replace hfs34 : fs34.length = 1 := hfs34.trans rfl
            simp only [List.drop_succ_cons, List.drop_zero]
            refine DP.fcall (x1) rfl rfl rfl hb105 (by simp (disch := first|omega|(simp only[ln];omega)) [idf_Wd', idf_numS, cells_numS, numS_fold, Sp.av, Sp.cells, Sg.av, Sg.cells, l3A, l3C]) (by simp (disch := first|omega|(simp only[ln];omega))) (by simp) ?_
            simp only [updo]
            refine DP.runFk 1 (by simp (disch := first|omega|(simp only[ln];omega)) [runDf.eq_def, runF1, runF2, stepF.eq_def, updo.eq_def, hupo.eq_def, opSto1.eq_def, List.take_succ_cons, List.take_zero, idf_Wd', idf_numS, cells_numS, numS_fold, Sp.av, Sp.cells, Sg.av, Sg.cells, l3A, l3C]; rfl) fun fs35 hfs35 => ?_
            replace hfs35 : fs35.length = 1 := hfs35.trans rfl
            simp only [List.drop_succ_cons, List.drop_zero]
            refine DP.fcall (l1Int_fc (u.b.x - u.a.x) (by omega) (by omega)) rfl rfl rfl hb106 (by simp (disch := first|omega|(simp only[ln];omega)) [idf_Wd', idf_numS, cells_numS, numS_fold, Sp.av, Sp.cells, Sg.av, Sg.cells, l3A, l3C]) (by simp (disch := first|omega|(simp only[ln];omega))) (by simp) ?_
            simp only [updo]
            refine DP.runFk 1 (by simp (disch := first|omega|(simp only[ln];omega)) [runDf.eq_def, runF1, runF2, stepF.eq_def, updo.eq_def, hupo.eq_def, opSto1.eq_def, List.take_succ_cons, List.take_zero, idf_Wd', idf_numS, cells_numS, numS_fold, Sp.av, Sp.cells, Sg.av, Sg.cells, l3A, l3C]; rfl) fun fs36 hfs36 => ?_
            replace hfs36 : fs36.length = 1 := hfs36.trans rfl
            simp only [List.drop_succ_cons, List.drop_zero]
            refine DP.fcall (x2) rfl rfl rfl hb105 (by simp (disch := first|omega|(simp only[ln];omega)) [idf_Wd', idf_numS, cells_numS, numS_fold, Sp.av, Sp.cells, Sg.av, Sg.cells, l3A, l3C]) (by simp (disch := first|omega|(simp only[ln];omega))) (by simp) ?_
            simp only [updo]
            refine DP.fcall (x3) rfl rfl rfl hb104 (by simp (disch := first|omega|(simp only[ln];omega)) [idf_Wd', idf_numS, cells_numS, numS_fold, Sp.av, Sp.cells, Sg.av, Sg.cells, l3A, l3C]) (by simp (disch := first|omega|(simp only[ln];omega))) (by simp) ?_
            simp only [updo]
            refine DP.runFk 1 (by simp (disch := first|omega|(simp only[ln];omega)) [runDf.eq_def, runF1, runF2, stepF.eq_def, updo.eq_def, hupo.eq_def, opSto1.eq_def, List.take_succ_cons, List.take_zero, idf_Wd', idf_numS, cells_numS, numS_fold, Sp.av, Sp.cells, Sg.av, Sg.cells, l3A, l3C]; rfl) fun fs37 hfs37 => ?_
            replace hfs37 : fs37.length = 1 := hfs37.trans rfl
            simp only [List.drop_succ_cons, List.drop_zero]
            refine DQ.runF (m := 12) (by simp only [List.length_append, List.length_cons, List.length_nil, hfs33, hfs34, hfs35, hfs36, hfs37]; omega) _ _ _ (by kernel_rfl) rfl (by simp (disch := first|omega|(simp only[ln];omega)) [runDf.eq_def, runF1, runF2, stepF.eq_def, updo.eq_def, hupo.eq_def, opSto1.eq_def, idf_Wd', idf_numS, cells_numS, numS_fold, Sp.av, Sp.cells, Sg.av, Sg.cells, l3A, l3C]; rfl) ?_
            refine hK32 _ ?_
            refine AWP.seqk fun K38 hK38 => ?_
            refine AWP.draw 12 Try.checked.mixed (by kernel_rfl) (by simp) ?_
            simp only [List.take_succ_cons, List.take_zero, List.drop_succ_cons, List.drop_zero]
            refine DP.runFk 3 (by simp (disch := first|omega|(simp only[ln];omega)) [runDf.eq_def, runF1, runF2, stepF.eq_def, updo.eq_def, hupo.eq_def, opSto1.eq_def, List.take_succ_cons, List.take_zero, idf_Wd', idf_numS, cells_numS, numS_fold, Sp.av, Sp.cells, Sg.av, Sg.cells, l3A, l3C]; rfl) fun fs39 hfs39 => ?_
            replace hfs39 : fs39.length = 3 := hfs39.trans rfl
            simp only [List.drop_succ_cons, List.drop_zero]
            refine DP.fcall (l1Int_fc u.a.y (by omega) (by omega)) rfl rfl rfl hb106 (by simp (disch := first|omega|(simp only[ln];omega)) [idf_Wd', idf_numS, cells_numS, numS_fold, Sp.av, Sp.cells, Sg.av, Sg.cells, l3A, l3C]) (by simp (disch := first|omega|(simp only[ln];omega))) (by simp) ?_
            simp only [updo]
            refine DP.runFk 1 (by simp (disch := first|omega|(simp only[ln];omega)) [runDf.eq_def, runF1, runF2, stepF.eq_def, updo.eq_def, hupo.eq_def, opSto1.eq_def, List.take_succ_cons, List.take_zero, idf_Wd', idf_numS, cells_numS, numS_fold, Sp.av, Sp.cells, Sg.av, Sg.cells, l3A, l3C]; rfl) fun fs40 hfs40 => ?_
            replace hfs40 : fs40.length = 1 := hfs40.trans rfl
            simp only [List.drop_succ_cons, List.drop_zero]
            refine DP.fcall (y1) rfl rfl rfl hb105 (by simp (disch := first|omega|(simp only[ln];omega)) [idf_Wd', idf_numS, cells_numS, numS_fold, Sp.av, Sp.cells, Sg.av, Sg.cells, l3A, l3C]) (by simp (disch := first|omega|(simp only[ln];omega))) (by simp) ?_
            simp only [updo]
            refine DP.runFk 1 (by simp (disch := first|omega|(simp only[ln];omega)) [runDf.eq_def, runF1, runF2, stepF.eq_def, updo.eq_def, hupo.eq_def, opSto1.eq_def, List.take_succ_cons, List.take_zero, idf_Wd', idf_numS, cells_numS, numS_fold, Sp.av, Sp.cells, Sg.av, Sg.cells, l3A, l3C]; rfl) fun fs41 hfs41 => ?_
            replace hfs41 : fs41.length = 1 := hfs41.trans rfl
            simp only [List.drop_succ_cons, List.drop_zero]
            refine DP.fcall (l1Int_fc (u.b.y - u.a.y) (by omega) (by omega)) rfl rfl rfl hb106 (by simp (disch := first|omega|(simp only[ln];omega)) [idf_Wd', idf_numS, cells_numS, numS_fold, Sp.av, Sp.cells, Sg.av, Sg.cells, l3A, l3C]) (by simp (disch := first|omega|(simp only[ln];omega))) (by simp) ?_
            simp only [updo]
            refine DP.runFk 1 (by simp (disch := first|omega|(simp only[ln];omega)) [runDf.eq_def, runF1, runF2, stepF.eq_def, updo.eq_def, hupo.eq_def, opSto1.eq_def, List.take_succ_cons, List.take_zero, idf_Wd', idf_numS, cells_numS, numS_fold, Sp.av, Sp.cells, Sg.av, Sg.cells, l3A, l3C]; rfl) fun fs42 hfs42 => ?_
            replace hfs42 : fs42.length = 1 := hfs42.trans rfl
            simp only [List.drop_succ_cons, List.drop_zero]
            refine DP.fcall (y2) rfl rfl rfl hb105 (by simp (disch := first|omega|(simp only[ln];omega)) [idf_Wd', idf_numS, cells_numS, numS_fold, Sp.av, Sp.cells, Sg.av, Sg.cells, l3A, l3C]) (by simp (disch := first|omega|(simp only[ln];omega))) (by simp) ?_
            simp only [updo]
            refine DP.fcall (y3) rfl rfl rfl hb104 (by simp (disch := first|omega|(simp only[ln];omega)) [idf_Wd', idf_numS, cells_numS, numS_fold, Sp.av, Sp.cells, Sg.av, Sg.cells, l3A, l3C]) (by simp (disch := first|omega|(simp only[ln];omega))) (by simp) ?_
            simp only [updo]
            refine DP.runFk 1 (by simp (disch := first|omega|(simp only[ln];omega)) [runDf.eq_def, runF1, runF2, stepF.eq_def, updo.eq_def, hupo.eq_def, opSto1.eq_def, List.take_succ_cons, List.take_zero, idf_Wd', idf_numS, cells_numS, numS_fold, Sp.av, Sp.cells, Sg.av, Sg.cells, l3A, l3C]; rfl) fun fs43 hfs43 => ?_
            replace hfs43 : fs43.length = 1 := hfs43.trans rfl
            simp only [List.drop_succ_cons, List.drop_zero]
            refine DQ.runF (m := 12) (by simp only [List.length_append, List.length_cons, List.length_nil, hfs39, hfs40, hfs41, hfs42, hfs43]; omega) _ _ _ (by kernel_rfl) rfl (by simp (disch := first|omega|(simp only[ln];omega)) [runDf.eq_def, runF1, runF2, stepF.eq_def, updo.eq_def, hupo.eq_def, opSto1.eq_def, idf_Wd', idf_numS, cells_numS, numS_fold, Sp.av, Sp.cells, Sg.av, Sg.cells, l3A, l3C]; rfl) ?_
            refine hK38 _ ?_
            refine AWP.seqk fun K44 hK44 => ?_
            refine AWP.region ?_
            refine AOPS.runk 3 (by simp (disch := first|omega|(simp only[ln];omega)) [List.take_succ_cons, List.take_zero, idf_Wd', idf_numS, cells_numS, numS_fold, Sp.av, Sp.cells, Sg.av, Sg.cells, l3A, l3C]; rfl) ?_
            simp only [List.drop_succ_cons, List.drop_zero]
            refine AOPS.fcall (l3) rfl rfl rfl hb103 (by simp (disch := first|omega|(simp only[ln];omega)) [idf_Wd', idf_numS, cells_numS, numS_fold, Sp.av, Sp.cells, Sg.av, Sg.cells, l3A, l3C]) (by simp (disch := first|omega|(simp only[ln];omega))) (by simp) ?_
            simp only [puts_some, updo]
            refine AOPS.all (by simp (disch := first|omega|(simp only[ln];omega)) [idf_Wd', idf_numS, cells_numS, numS_fold, Sp.av, Sp.cells, Sg.av, Sg.cells, l3A, l3C]; rfl) ?_
            refine hK44 _ ?_
            refine AWP.ret ?_
            exact hK _ _ _ _ trivial ((Fin.mk (by simp [aRes, aResL, aRes1, idf_Wd', idf_numS, cells_numS, numS_fold, Sp.av, Sp.cells, Sg.av, Sg.cells, l3A, l3C]; rfl)).cast (by rw [hl4]; rfl))
        · refine AWP.region (AOPS.all (by simp (disch := first|omega|(simp only[ln];omega)) [idf_Wd', idf_numS, cells_numS, numS_fold, Sp.av, Sp.cells, Sg.av, Sg.cells, l3A, l3C, q3]; rfl) ?_)
          refine hK24 _ ?_
          refine cond_ok _ (by simp (disch := first|omega|(simp only[ln];omega)); rfl) (fun h95 => ?_) (fun h95 => ?_)
          · try simp only [decide_eq_true_eq, decide_eq_false_iff_not] at h95
            have hw : noWay u v = true := by rw [hnw, q3]; rfl
            refine AWP.seqk fun K45 hK45 => ?_
            refine AWP.region (AOPS.all (by simp (disch := first|omega|(simp only[ln];omega)) [idf_Wd', idf_numS, cells_numS, numS_fold, Sp.av, Sp.cells, Sg.av, Sg.cells, l3A, l3C]; rfl) ?_)
            refine hK45 _ ?_
            refine AWP.ret ?_
            exact hK _ _ _ _ trivial ((Fin.mk (by simp [aRes, aResL, aRes1, idf_Wd', idf_numS, cells_numS, numS_fold, Sp.av, Sp.cells, Sg.av, Sg.cells, l3A, l3C]; rfl)).cast (by unfold l4V; rw [hA, hB, if_neg h0, if_pos hw]; try rfl))
          · simp at h95
  · have c1 := sg1 hA0
    have h0 : ¬ (A = 0 ∧ B = 0) := fun h => hA0 h.1
    refine AWP.region (AOPS.all (by simp (disch := first|omega|(simp only[ln];omega)) [idf_Wd', idf_numS, cells_numS, numS_fold, Sp.av, Sp.cells, Sg.av, Sg.cells, l3A, l3C, c1]; rfl) ?_)
    refine hK7 _ ?_
    refine cond_ok _ (by simp (disch := first|omega|(simp only[ln];omega)); rfl) (fun h54 => ?_) (fun h54 => ?_)
    · simp at h54
    · try simp only [decide_eq_true_eq, decide_eq_false_iff_not] at h54
      refine AWP.skip ?_
      refine hK6 _ ?_
      refine AWP.seqk fun K46 hK46 => ?_
      refine AWP.seqk fun K47 hK47 => ?_
      cases q3 : decide (0 < sg3 A * sg3 B)
      · refine AWP.region (AOPS.all (by simp (disch := first|omega|(simp only[ln];omega)) [idf_Wd', idf_numS, cells_numS, numS_fold, Sp.av, Sp.cells, Sg.av, Sg.cells, l3A, l3C, q3]; rfl) ?_)
        refine hK47 _ ?_
        refine cond_ok (decide (0 < sg3 C * sg3 D)) (by simp (disch := first|omega|(simp only[ln];omega))) (fun h95 => ?_) (fun h95 => ?_)
        · try simp only [decide_eq_true_eq, decide_eq_false_iff_not] at h95
          have hw : noWay u v = true := by rw [hnw, q3]; simp [h95]
          refine AWP.seqk fun K48 hK48 => ?_
          refine AWP.region (AOPS.all (by simp (disch := first|omega|(simp only[ln];omega)) [idf_Wd', idf_numS, cells_numS, numS_fold, Sp.av, Sp.cells, Sg.av, Sg.cells, l3A, l3C]; rfl) ?_)
          refine hK48 _ ?_
          refine AWP.ret ?_
          exact hK _ _ _ _ trivial ((Fin.mk (by simp [aRes, aResL, aRes1, idf_Wd', idf_numS, cells_numS, numS_fold, Sp.av, Sp.cells, Sg.av, Sg.cells, l3A, l3C]; rfl)).cast (by unfold l4V; rw [hA, hB, if_neg h0, if_pos hw]; try rfl))
        · try simp only [decide_eq_true_eq, decide_eq_false_iff_not] at h95
          have hw : ¬ noWay u v = true := by rw [hnw, q3]; simp; omega
          have m1 := mul_b (u := u.b.x - u.a.x) (v := v.b.y - v.a.y) (m := 2000000) (n := 2000000) (by omega) (by omega) (by omega) (by omega) (by omega)
          have m2 := mul_b (u := u.b.y - u.a.y) (v := v.b.x - v.a.x) (m := 2000000) (n := 2000000) (by omega) (by omega) (by omega) (by omega) (by omega)
          have m3 := mul_b (u := v.a.x - u.a.x) (v := v.b.y - v.a.y) (m := 2000000) (n := 2000000) (by omega) (by omega) (by omega) (by omega) (by omega)
          have m4 := mul_b (u := v.a.y - u.a.y) (v := v.b.x - v.a.x) (m := 2000000) (n := 2000000) (by omega) (by omega) (by omega) (by omega) (by omega)
          have hdn := den_ne gu gv (by rw [hA, hB]; exact h0) hw
          have eD : denS u v = (u.b.x - u.a.x) * (v.b.y - v.a.y) - (u.b.y - u.a.y) * (v.b.x - v.a.x) := rfl
          have eN : numT u v = (v.a.x - u.a.x) * (v.b.y - v.a.y) - (v.a.y - u.a.y) * (v.b.x - v.a.x) := rfl
          have b1 : Bg 1 u.a.x := Bg.i64 (by omega) (by omega)
          have b2 : Bg 1 u.a.y := Bg.i64 (by omega) (by omega)
          have b3 : Bg 1 (denS u v) := Bg.i64 (by rw [eD]; omega) (by rw [eD]; omega)
          have b4 : Bg 1 (numT u v) := Bg.i64 (by rw [eN]; omega) (by rw [eN]; omega)
          have b5 : Bg 1 (u.b.x - u.a.x) := Bg.i64 (by omega) (by omega)
          have b6 : Bg 1 (u.b.y - u.a.y) := Bg.i64 (by omega) (by omega)
          have i1 := l1Int_fc (denS u v) (by rw [eD]; omega) (by rw [eD]; omega)
          have i2 := l1Int_fc (numT u v) (by rw [eN]; omega) (by rw [eN]; omega)
          rw [eD] at i1
          rw [eN] at i2
          have x1 := l1Mul_fc b1 b3 (by omega) (by omega)
          have x2 := l1Mul_fc b5 b4 (by omega) (by omega)
          have x3 := l1Add_fc (b1.mul b3) (b5.mul b4) (by omega) (by omega)
          have y1 := l1Mul_fc b2 b3 (by omega) (by omega)
          have y2 := l1Mul_fc b6 b4 (by omega) (by omega)
          have y3 := l1Add_fc (b2.mul b3) (b6.mul b4) (by omega) (by omega)
          have l3 := l3Make_fc (j := 3) (wayX2 u v) (wayY2 u v) (denS u v) hdn (((b1.mul b3).add (b5.mul b4)).le (by omega)) (((b2.mul b3).add (b6.mul b4)).le (by omega)) (b3.le (by omega)) (by omega) (by omega)
          unfold wayX2 wayY2 at l3
          rw [eD] at x1 x3 y1 y3
          rw [eN] at x2 x3 y2 y3
          simp only [eD, eN] at l3
          have eV : l3A (nX u v) (nY u v) (nW u v) = l3A (nX u v) (nY u v) (nW u v) := rfl
          unfold nX nY nW wayX2 wayY2 at eV
          simp only [eD, eN] at eV
          have hl4 : l4V u v = .tup [.int .i64 1, l3A (nX u v) (nY u v) (nW u v), z3] := by unfold l4V; rw [hA, hB, if_neg h0, if_neg hw]
          unfold nX nY nW wayX2 wayY2 at hl4
          simp only [eD, eN] at hl4
          clear b3 b4 eV
          refine AWP.skip ?_
          refine hK46 _ ?_
          refine AWP.seqk fun K49 hK49 => ?_
          refine AWP.region (AOPS.all (by simp (disch := first|omega|(simp only[ln];omega)) [idf_Wd', idf_numS, cells_numS, numS_fold, Sp.av, Sp.cells, Sg.av, Sg.cells, l3A, l3C]; rfl) ?_)
          refine hK49 _ ?_
          refine AWP.seqk fun K50 hK50 => ?_
          refine AWP.region (AOPS.all (by simp (disch := first|omega|(simp only[ln];omega)) [idf_Wd', idf_numS, cells_numS, numS_fold, Sp.av, Sp.cells, Sg.av, Sg.cells, l3A, l3C]; rfl) ?_)
          refine hK50 _ ?_
          refine AWP.seqk fun K51 hK51 => ?_
          refine AWP.region (AOPS.all (by simp (disch := first|omega|(simp only[ln];omega)) [idf_Wd', idf_numS, cells_numS, numS_fold, Sp.av, Sp.cells, Sg.av, Sg.cells, l3A, l3C]; rfl) ?_)
          refine hK51 _ ?_
          refine AWP.seqk fun K52 hK52 => ?_
          refine AWP.region (AOPS.all (by simp (disch := first|omega|(simp only[ln];omega)) [idf_Wd', idf_numS, cells_numS, numS_fold, Sp.av, Sp.cells, Sg.av, Sg.cells, l3A, l3C]; rfl) ?_)
          refine hK52 _ ?_
          refine AWP.seqk fun K53 hK53 => ?_
          refine AWP.region ?_
          refine AOPS.runk 7 (by simp (disch := first|omega|(simp only[ln];omega)) [List.take_succ_cons, List.take_zero, idf_Wd', idf_numS, cells_numS, numS_fold, Sp.av, Sp.cells, Sg.av, Sg.cells, l3A, l3C]; rfl) ?_
          simp only [List.drop_succ_cons, List.drop_zero]
          refine AOPS.fcall (i1) rfl rfl rfl hb106 (by simp (disch := first|omega|(simp only[ln];omega)) [idf_Wd', idf_numS, cells_numS, numS_fold, Sp.av, Sp.cells, Sg.av, Sg.cells, l3A, l3C]) (by simp (disch := first|omega|(simp only[ln];omega))) (by simp) ?_
          simp only [puts_some, updo]
          refine AOPS.all (by simp (disch := first|omega|(simp only[ln];omega)) [idf_Wd', idf_numS, cells_numS, numS_fold, Sp.av, Sp.cells, Sg.av, Sg.cells, l3A, l3C]; rfl) ?_
          refine hK53 _ ?_
          refine AWP.seqk fun K54 hK54 => ?_
          refine AWP.region ?_
          refine AOPS.runk 19 (by simp (disch := first|omega|(simp only[ln];omega)) [List.take_succ_cons, List.take_zero, idf_Wd', idf_numS, cells_numS, numS_fold, Sp.av, Sp.cells, Sg.av, Sg.cells, l3A, l3C]; rfl) ?_
          simp only [List.drop_succ_cons, List.drop_zero]
          refine AOPS.fcall (i2) rfl rfl rfl hb106 (by simp (disch := first|omega|(simp only[ln];omega)) [idf_Wd', idf_numS, cells_numS, numS_fold, Sp.av, Sp.cells, Sg.av, Sg.cells, l3A, l3C]) (by simp (disch := first|omega|(simp only[ln];omega))) (by simp) ?_
          simp only [puts_some, updo]
          refine AOPS.all (by simp (disch := first|omega|(simp only[ln];omega)) [idf_Wd', idf_numS, cells_numS, numS_fold, Sp.av, Sp.cells, Sg.av, Sg.cells, l3A, l3C]; rfl) ?_
          refine hK54 _ ?_
          refine AWP.seqk fun K55 hK55 => ?_
          refine AWP.draw 12 Try.checked.mixed (by kernel_rfl) (by simp) ?_
          simp only [List.take_succ_cons, List.take_zero, List.drop_succ_cons, List.drop_zero]
          refine DP.runFk 3 (by simp (disch := first|omega|(simp only[ln];omega)) [runDf.eq_def, runF1, runF2, stepF.eq_def, updo.eq_def, hupo.eq_def, opSto1.eq_def, List.take_succ_cons, List.take_zero, idf_Wd', idf_numS, cells_numS, numS_fold, Sp.av, Sp.cells, Sg.av, Sg.cells, l3A, l3C]; rfl) fun fs56 hfs56 => ?_
          replace hfs56 : fs56.length = 3 := hfs56.trans rfl
          simp only [List.drop_succ_cons, List.drop_zero]
          refine DP.fcall (l1Int_fc u.a.x (by omega) (by omega)) rfl rfl rfl hb106 (by simp (disch := first|omega|(simp only[ln];omega)) [idf_Wd', idf_numS, cells_numS, numS_fold, Sp.av, Sp.cells, Sg.av, Sg.cells, l3A, l3C]) (by simp (disch := first|omega|(simp only[ln];omega))) (by simp) ?_
          simp only [updo]
          refine DP.runFk 1 (by simp (disch := first|omega|(simp only[ln];omega)) [runDf.eq_def, runF1, runF2, stepF.eq_def, updo.eq_def, hupo.eq_def, opSto1.eq_def, List.take_succ_cons, List.take_zero, idf_Wd', idf_numS, cells_numS, numS_fold, Sp.av, Sp.cells, Sg.av, Sg.cells, l3A, l3C]; rfl) fun fs57 hfs57 => ?_
          replace hfs57 : fs57.length = 1 := hfs57.trans rfl
          simp only [List.drop_succ_cons, List.drop_zero]
          refine DP.fcall (x1) rfl rfl rfl hb105 (by simp (disch := first|omega|(simp only[ln];omega)) [idf_Wd', idf_numS, cells_numS, numS_fold, Sp.av, Sp.cells, Sg.av, Sg.cells, l3A, l3C]) (by simp (disch := first|omega|(simp only[ln];omega))) (by simp) ?_
          simp only [updo]
          refine DP.runFk 1 (by simp (disch := first|omega|(simp only[ln];omega)) [runDf.eq_def, runF1, runF2, stepF.eq_def, updo.eq_def, hupo.eq_def, opSto1.eq_def, List.take_succ_cons, List.take_zero, idf_Wd', idf_numS, cells_numS, numS_fold, Sp.av, Sp.cells, Sg.av, Sg.cells, l3A, l3C]; rfl) fun fs58 hfs58 => ?_
          replace hfs58 : fs58.length = 1 := hfs58.trans rfl
          simp only [List.drop_succ_cons, List.drop_zero]
          refine DP.fcall (l1Int_fc (u.b.x - u.a.x) (by omega) (by omega)) rfl rfl rfl hb106 (by simp (disch := first|omega|(simp only[ln];omega)) [idf_Wd', idf_numS, cells_numS, numS_fold, Sp.av, Sp.cells, Sg.av, Sg.cells, l3A, l3C]) (by simp (disch := first|omega|(simp only[ln];omega))) (by simp) ?_
          simp only [updo]
          refine DP.runFk 1 (by simp (disch := first|omega|(simp only[ln];omega)) [runDf.eq_def, runF1, runF2, stepF.eq_def, updo.eq_def, hupo.eq_def, opSto1.eq_def, List.take_succ_cons, List.take_zero, idf_Wd', idf_numS, cells_numS, numS_fold, Sp.av, Sp.cells, Sg.av, Sg.cells, l3A, l3C]; rfl) fun fs59 hfs59 => ?_
          replace hfs59 : fs59.length = 1 := hfs59.trans rfl
          simp only [List.drop_succ_cons, List.drop_zero]
          refine DP.fcall (x2) rfl rfl rfl hb105 (by simp (disch := first|omega|(simp only[ln];omega)) [idf_Wd', idf_numS, cells_numS, numS_fold, Sp.av, Sp.cells, Sg.av, Sg.cells, l3A, l3C]) (by simp (disch := first|omega|(simp only[ln];omega))) (by simp) ?_
          simp only [updo]
          refine DP.fcall (x3) rfl rfl rfl hb104 (by simp (disch := first|omega|(simp only[ln];omega)) [idf_Wd', idf_numS, cells_numS, numS_fold, Sp.av, Sp.cells, Sg.av, Sg.cells, l3A, l3C]) (by simp (disch := first|omega|(simp only[ln];omega))) (by simp) ?_
          simp only [updo]
          refine DP.runFk 1 (by simp (disch := first|omega|(simp only[ln];omega)) [runDf.eq_def, runF1, runF2, stepF.eq_def, updo.eq_def, hupo.eq_def, opSto1.eq_def, List.take_succ_cons, List.take_zero, idf_Wd', idf_numS, cells_numS, numS_fold, Sp.av, Sp.cells, Sg.av, Sg.cells, l3A, l3C]; rfl) fun fs60 hfs60 => ?_
          replace hfs60 : fs60.length = 1 := hfs60.trans rfl
          simp only [List.drop_succ_cons, List.drop_zero]
          refine DQ.runF (m := 12) (by simp only [List.length_append, List.length_cons, List.length_nil, hfs56, hfs57, hfs58, hfs59, hfs60]; omega) _ _ _ (by kernel_rfl) rfl (by simp (disch := first|omega|(simp only[ln];omega)) [runDf.eq_def, runF1, runF2, stepF.eq_def, updo.eq_def, hupo.eq_def, opSto1.eq_def, idf_Wd', idf_numS, cells_numS, numS_fold, Sp.av, Sp.cells, Sg.av, Sg.cells, l3A, l3C]; rfl) ?_
          refine hK55 _ ?_
          refine AWP.seqk fun K61 hK61 => ?_
          refine AWP.draw 12 Try.checked.mixed (by kernel_rfl) (by simp) ?_
          simp only [List.take_succ_cons, List.take_zero, List.drop_succ_cons, List.drop_zero]
          refine DP.runFk 3 (by simp (disch := first|omega|(simp only[ln];omega)) [runDf.eq_def, runF1, runF2, stepF.eq_def, updo.eq_def, hupo.eq_def, opSto1.eq_def, List.take_succ_cons, List.take_zero, idf_Wd', idf_numS, cells_numS, numS_fold, Sp.av, Sp.cells, Sg.av, Sg.cells, l3A, l3C]; rfl) fun fs62 hfs62 => ?_
          replace hfs62 : fs62.length = 3 := hfs62.trans rfl
          simp only [List.drop_succ_cons, List.drop_zero]
          refine DP.fcall (l1Int_fc u.a.y (by omega) (by omega)) rfl rfl rfl hb106 (by simp (disch := first|omega|(simp only[ln];omega)) [idf_Wd', idf_numS, cells_numS, numS_fold, Sp.av, Sp.cells, Sg.av, Sg.cells, l3A, l3C]) (by simp (disch := first|omega|(simp only[ln];omega))) (by simp) ?_
          simp only [updo]
          refine DP.runFk 1 (by simp (disch := first|omega|(simp only[ln];omega)) [runDf.eq_def, runF1, runF2, stepF.eq_def, updo.eq_def, hupo.eq_def, opSto1.eq_def, List.take_succ_cons, List.take_zero, idf_Wd', idf_numS, cells_numS, numS_fold, Sp.av, Sp.cells, Sg.av, Sg.cells, l3A, l3C]; rfl) fun fs63 hfs63 => ?_
          replace hfs63 : fs63.length = 1 := hfs63.trans rfl
          simp only [List.drop_succ_cons, List.drop_zero]
          refine DP.fcall (y1) rfl rfl rfl hb105 (by simp (disch := first|omega|(simp only[ln];omega)) [idf_Wd', idf_numS, cells_numS, numS_fold, Sp.av, Sp.cells, Sg.av, Sg.cells, l3A, l3C]) (by simp (disch := first|omega|(simp only[ln];omega))) (by simp) ?_
          simp only [updo]
          refine DP.runFk 1 (by simp (disch := first|omega|(simp only[ln];omega)) [runDf.eq_def, runF1, runF2, stepF.eq_def, updo.eq_def, hupo.eq_def, opSto1.eq_def, List.take_succ_cons, List.take_zero, idf_Wd', idf_numS, cells_numS, numS_fold, Sp.av, Sp.cells, Sg.av, Sg.cells, l3A, l3C]; rfl) fun fs64 hfs64 => ?_
          replace hfs64 : fs64.length = 1 := hfs64.trans rfl
          simp only [List.drop_succ_cons, List.drop_zero]
          refine DP.fcall (l1Int_fc (u.b.y - u.a.y) (by omega) (by omega)) rfl rfl rfl hb106 (by simp (disch := first|omega|(simp only[ln];omega)) [idf_Wd', idf_numS, cells_numS, numS_fold, Sp.av, Sp.cells, Sg.av, Sg.cells, l3A, l3C]) (by simp (disch := first|omega|(simp only[ln];omega))) (by simp) ?_
          simp only [updo]
          refine DP.runFk 1 (by simp (disch := first|omega|(simp only[ln];omega)) [runDf.eq_def, runF1, runF2, stepF.eq_def, updo.eq_def, hupo.eq_def, opSto1.eq_def, List.take_succ_cons, List.take_zero, idf_Wd', idf_numS, cells_numS, numS_fold, Sp.av, Sp.cells, Sg.av, Sg.cells, l3A, l3C]; rfl) fun fs65 hfs65 => ?_
          replace hfs65 : fs65.length = 1 := hfs65.trans rfl
          simp only [List.drop_succ_cons, List.drop_zero]
          refine DP.fcall (y2) rfl rfl rfl hb105 (by simp (disch := first|omega|(simp only[ln];omega)) [idf_Wd', idf_numS, cells_numS, numS_fold, Sp.av, Sp.cells, Sg.av, Sg.cells, l3A, l3C]) (by simp (disch := first|omega|(simp only[ln];omega))) (by simp) ?_
          simp only [updo]
          refine DP.fcall (y3) rfl rfl rfl hb104 (by simp (disch := first|omega|(simp only[ln];omega)) [idf_Wd', idf_numS, cells_numS, numS_fold, Sp.av, Sp.cells, Sg.av, Sg.cells, l3A, l3C]) (by simp (disch := first|omega|(simp only[ln];omega))) (by simp) ?_
          simp only [updo]
          refine DP.runFk 1 (by simp (disch := first|omega|(simp only[ln];omega)) [runDf.eq_def, runF1, runF2, stepF.eq_def, updo.eq_def, hupo.eq_def, opSto1.eq_def, List.take_succ_cons, List.take_zero, idf_Wd', idf_numS, cells_numS, numS_fold, Sp.av, Sp.cells, Sg.av, Sg.cells, l3A, l3C]; rfl) fun fs66 hfs66 => ?_
          replace hfs66 : fs66.length = 1 := hfs66.trans rfl
          simp only [List.drop_succ_cons, List.drop_zero]
          refine DQ.runF (m := 12) (by simp only [List.length_append, List.length_cons, List.length_nil, hfs62, hfs63, hfs64, hfs65, hfs66]; omega) _ _ _ (by kernel_rfl) rfl (by simp (disch := first|omega|(simp only[ln];omega)) [runDf.eq_def, runF1, runF2, stepF.eq_def, updo.eq_def, hupo.eq_def, opSto1.eq_def, idf_Wd', idf_numS, cells_numS, numS_fold, Sp.av, Sp.cells, Sg.av, Sg.cells, l3A, l3C]; rfl) ?_
          refine hK61 _ ?_
          refine AWP.seqk fun K67 hK67 => ?_
          refine AWP.region ?_
          refine AOPS.runk 3 (by simp (disch := first|omega|(simp only[ln];omega)) [List.take_succ_cons, List.take_zero, idf_Wd', idf_numS, cells_numS, numS_fold, Sp.av, Sp.cells, Sg.av, Sg.cells, l3A, l3C]; rfl) ?_
          simp only [List.drop_succ_cons, List.drop_zero]
          refine AOPS.fcall (l3) rfl rfl rfl hb103 (by simp (disch := first|omega|(simp only[ln];omega)) [idf_Wd', idf_numS, cells_numS, numS_fold, Sp.av, Sp.cells, Sg.av, Sg.cells, l3A, l3C]) (by simp (disch := first|omega|(simp only[ln];omega))) (by simp) ?_
          simp only [puts_some, updo]
          refine AOPS.all (by simp (disch := first|omega|(simp only[ln];omega)) [idf_Wd', idf_numS, cells_numS, numS_fold, Sp.av, Sp.cells, Sg.av, Sg.cells, l3A, l3C]; rfl) ?_
          refine hK67 _ ?_
          refine AWP.ret ?_
          exact hK _ _ _ _ trivial ((Fin.mk (by simp [aRes, aResL, aRes1, idf_Wd', idf_numS, cells_numS, numS_fold, Sp.av, Sp.cells, Sg.av, Sg.cells, l3A, l3C]; rfl)).cast (by rw [hl4]; rfl))
      · refine AWP.region (AOPS.all (by simp (disch := first|omega|(simp only[ln];omega)) [idf_Wd', idf_numS, cells_numS, numS_fold, Sp.av, Sp.cells, Sg.av, Sg.cells, l3A, l3C, q3]; rfl) ?_)
        refine hK47 _ ?_
        refine cond_ok _ (by simp (disch := first|omega|(simp only[ln];omega)); rfl) (fun h95 => ?_) (fun h95 => ?_)
        · try simp only [decide_eq_true_eq, decide_eq_false_iff_not] at h95
          have hw : noWay u v = true := by rw [hnw, q3]; rfl
          refine AWP.seqk fun K68 hK68 => ?_
          refine AWP.region (AOPS.all (by simp (disch := first|omega|(simp only[ln];omega)) [idf_Wd', idf_numS, cells_numS, numS_fold, Sp.av, Sp.cells, Sg.av, Sg.cells, l3A, l3C]; rfl) ?_)
          refine hK68 _ ?_
          refine AWP.ret ?_
          exact hK _ _ _ _ trivial ((Fin.mk (by simp [aRes, aResL, aRes1, idf_Wd', idf_numS, cells_numS, numS_fold, Sp.av, Sp.cells, Sg.av, Sg.cells, l3A, l3C]; rfl)).cast (by unfold l4V; rw [hA, hB, if_neg h0, if_pos hw]; try rfl))
        · simp at h95

end Go.Proofs.Ytmaebeknmiomnaa

/- Walks: rings, by the reference. -/
namespace Go.Proofs.Ytmaebeknmiomnaa
open Go Go.RowKit
set_option linter.unusedSimpArgs false
set_option linter.unusedVariables false
set_option maxRecDepth 100000
attribute [local simp] List.getElem?_cons_zero List.getElem?_cons_succ List.getElem?_toArray runOps stepOp.eq_def agd.eq_def dstOk.eq_def opVal.eq_def opNew.eq_def opSto.eq_def ev.eq_def cv.eq_def puts_some puts_none upd_ap lst.eq_def aBin.eq_def aUn.eq_def aBi_str aBi_isl aBi_osl aBi_nsl aBi_max aBi_min aBi_max3 aConv.eq_def aLd.eq_def aLoad.eq_def aField.eq_def aFld.eq_def aIdx_isl aIdx_osl aSlc_isl aSlc_osl aSlc_str aSlc_nsl bnd.eq_def evs_nil evs_cons aBuild.eq_def aFill splice.eq_def cells_agg cells_int cells_bool cells_str cells_nil cells_nsl cells_isl cells_osl cells_ptr cells_ip cells_fn cells_Wd one_int one_bool one_str one_nil one_nsl one_isl one_osl one_ptr one_ip one_fn one_Wd aSets hupd_eq hupd_ne wrap_i64s wrap_u64s wrap_u32s wrap_u8s wd_getD wd_set wd_len wd_replicate wd_one wd_fold fz_osl hupd_same aSix.eq_def aEqS.eq_def aEqB_bool aEqB_nsl aEqB_nil
attribute [local simp] szT2 byT2 agT2 unT2 zoT2 szT3 byT3 agT3 unT3 zoT3 szT60 byT60 agT60 elT60 unT60 zoT60 szT62 byT62 agT62 flT62 fdT62_0 zoT62 szT67 byT67 agT67 flT67 fdT67_0 fdT67_1 zoT67 szT69 byT69 agT69 flT69 fdT69_0 fdT69_1 zoT69 szT113 byT113 agT113 flT113 fdT113_0 fdT113_1 zoT113 szT115 byT115 agT115 flT115 fdT115_0 fdT115_1 fdT115_2 zoT115

theorem l4V_k {u v : Sg} (gu : u.good = true) (gv : v.good = true) : ∃ (b1 b2 b3 c1 c2 c3 : Bool) (s1 s2 s3 t1 t2 t3 : AV), l4V u v = .tup [.int .i64 (meetI u v).1, .agg [.bool b1, s1, .bool b2, s2, .bool b3, s3], .agg [.bool c1, t1, .bool c2, t2, .bool c3, t3]] ∧ avOne s1 = true ∧ avOne s2 = true ∧ avOne s3 = true ∧ avOne t1 = true ∧ avOne t2 = true ∧ avOne t3 = true := by
  have e := meet_eq gu gv
  rw [e]
  unfold l4V meetS linP z3 l3A l3C
  have ow : ∀ x, avOne (Wd .u32 (dg x)) = true := fun x => rfl
  have on : avOne .nsl = true := rfl
  by_cases h0 : crs u.a u.b v.a = 0 ∧ crs u.a u.b v.b = 0
  · rw [if_pos h0, if_pos h0]
    by_cases h1 : lsS (highS u v) (lowS u v) = true
    · rw [if_pos h1, if_pos h1]; exact ⟨_, _, _, _, _, _, _, _, _, _, _, _, rfl, on, on, on, on, on, on⟩
    · rw [if_neg h1, if_neg h1]
      by_cases h2 : lowS u v = highS u v
      · rw [if_pos h2, if_pos h2]; exact ⟨_, _, _, _, _, _, _, _, _, _, _, _, rfl, ow _, ow _, ow _, on, on, on⟩
      · rw [if_neg h2, if_neg h2]; exact ⟨_, _, _, _, _, _, _, _, _, _, _, _, rfl, ow _, ow _, ow _, ow _, ow _, ow _⟩
  · rw [if_neg h0, if_neg h0]
    by_cases h1 : noWay u v = true
    · rw [if_pos h1, if_pos h1]; exact ⟨_, _, _, _, _, _, _, _, _, _, _, _, rfl, on, on, on, on, on, on⟩
    · rw [if_neg h1, if_neg h1]; exact ⟨_, _, _, _, _, _, _, _, _, _, _, _, rfl, ow _, ow _, ow _, on, on, on⟩

end Go.Proofs.Ytmaebeknmiomnaa

/- Walks: FnExactRingFault, FnExactRingArea2, FnExactRingsMeet, walked. -/
namespace Go.Proofs.Ytmaebeknmiomnaa
open Go Go.RowKit
set_option linter.unusedSimpArgs false
set_option linter.unusedVariables false
set_option maxRecDepth 100000
attribute [local simp] List.getElem?_cons_zero List.getElem?_cons_succ List.getElem?_toArray runOps stepOp.eq_def agd.eq_def dstOk.eq_def opVal.eq_def opNew.eq_def opSto.eq_def ev.eq_def cv.eq_def puts_some puts_none upd_ap lst.eq_def aBin.eq_def aUn.eq_def aBi_str aBi_isl aBi_osl aBi_nsl aBi_max aBi_min aBi_max3 aConv.eq_def aLd.eq_def aLoad.eq_def aField.eq_def aFld.eq_def aIdx_isl aIdx_osl aSlc_isl aSlc_osl aSlc_str aSlc_nsl bnd.eq_def evs_nil evs_cons aBuild.eq_def aFill splice.eq_def cells_agg cells_int cells_bool cells_str cells_nil cells_nsl cells_isl cells_osl cells_ptr cells_ip cells_fn cells_Wd one_int one_bool one_str one_nil one_nsl one_isl one_osl one_ptr one_ip one_fn one_Wd aSets hupd_eq hupd_ne wrap_i64s wrap_u64s wrap_u32s wrap_u8s wd_getD wd_set wd_len wd_replicate wd_one wd_fold fz_osl hupd_same aSix.eq_def aEqS.eq_def aEqB_bool aEqB_nsl aEqB_nil
attribute [local simp] szT2 byT2 agT2 unT2 zoT2 szT3 byT3 agT3 unT3 zoT3 szT4 byT4 agT4 unT4 zoT4 szT55 byT55 agT55 elT55 unT55 zoT55 szT57 byT57 agT57 flT57 fdT57_0 zoT57 szT60 byT60 agT60 elT60 unT60 zoT60 szT62 byT62 agT62 flT62 fdT62_0 zoT62 szT67 byT67 agT67 flT67 fdT67_0 fdT67_1 zoT67 szT134 byT134 agT134 flT134 fdT134_0 fdT134_1 zoT134

def szN (len : Nat) (n : Int) : Int := if n - len < 0 then -1 else n - len
theorem szN_le {k : Nat} {n : Int} (h : ¬ szN k n < 0) : (k : Int) ≤ n ∧ szN k n = n - k := by unfold szN at *; split at h <;> simp_all; omega

theorem eqSpot_fc (p : Sp) : FC Try.prog 189 [p.av, p.av] (.bool true) := by
  refine FC.body Try.func189 rfl (by simp [idfL, idf, idfLL_iff, Sp.av, Sp.cells, Sg.av, Sg.cells]) (by simp [idfL, idf, idfLL_iff, idf_Wd', Sp.av, Sp.cells, Sg.av, Sg.cells]) 15 rfl fun nx K hK => ?_
  refine AWP.seqk fun K1 hK1 => ?_
  refine AWP.region (AOPS.all (by simp (disch := first|omega|(simp only[ln];omega)) [idf_Wd', Sp.av, Sp.cells, Sg.av, Sg.cells]; rfl) ?_)
  refine hK1 _ ?_
  refine AWP.seqk fun K2 hK2 => ?_
  refine AWP.seqk fun K3 hK3 => ?_
  refine AWP.region (AOPS.all (by simp (disch := first|omega|(simp only[ln];omega)) [idf_Wd', Sp.av, Sp.cells, Sg.av, Sg.cells]; rfl) ?_)
  refine hK3 _ ?_
  refine cond_ok _ (by simp (disch := first|omega|(simp only[ln];omega)); rfl) (fun h9 => ?_) (fun h9 => ?_)
  · simp at h9
  · try simp only [decide_eq_true_eq, decide_eq_false_iff_not] at h9
    refine AWP.skip ?_
    refine hK2 _ ?_
    refine AWP.seqk fun K4 hK4 => ?_
    refine AWP.seqk fun K5 hK5 => ?_
    refine AWP.region (AOPS.all (by simp (disch := first|omega|(simp only[ln];omega)) [idf_Wd', Sp.av, Sp.cells, Sg.av, Sg.cells]; rfl) ?_)
    refine hK5 _ ?_
    refine cond_ok _ (by simp (disch := first|omega|(simp only[ln];omega)); rfl) (fun h14 => ?_) (fun h14 => ?_)
    · simp at h14
    · try simp only [decide_eq_true_eq, decide_eq_false_iff_not] at h14
      refine AWP.skip ?_
      refine hK4 _ ?_
      refine AWP.seqk fun K6 hK6 => ?_
      refine AWP.region (AOPS.all (by simp (disch := first|omega|(simp only[ln];omega)) [idf_Wd', Sp.av, Sp.cells, Sg.av, Sg.cells]; rfl) ?_)
      refine hK6 _ ?_
      refine AWP.ret ?_
      exact hK _ _ _ _ trivial ((Fin.mk (by simp [aRes, aResL, aRes1, idf_Wd', Sp.av, Sp.cells, Sg.av, Sg.cells]; try rfl)))

end Go.Proofs.Ytmaebeknmiomnaa

/- Walks: segments that are quiet; FnExactQuiet, walked. -/
namespace Go.Proofs.Ytmaebeknmiomnaa
open Go Go.RowKit
set_option linter.unusedSimpArgs false
set_option linter.unusedVariables false
set_option maxRecDepth 100000
attribute [local simp] List.getElem?_cons_zero List.getElem?_cons_succ List.getElem?_toArray runOps stepOp.eq_def agd.eq_def dstOk.eq_def opVal.eq_def opNew.eq_def opSto.eq_def ev.eq_def cv.eq_def puts_some puts_none upd_ap lst.eq_def aBin.eq_def aUn.eq_def aBi_str aBi_isl aBi_osl aBi_nsl aBi_max aBi_min aBi_max3 aConv.eq_def aLd.eq_def aLoad.eq_def aField.eq_def aFld.eq_def aIdx_isl aIdx_osl aSlc_isl aSlc_osl aSlc_str aSlc_nsl bnd.eq_def evs_nil evs_cons aBuild.eq_def aFill splice.eq_def cells_agg cells_int cells_bool cells_str cells_nil cells_nsl cells_isl cells_osl cells_ptr cells_ip cells_fn cells_Wd one_int one_bool one_str one_nil one_nsl one_isl one_osl one_ptr one_ip one_fn one_Wd aSets hupd_eq hupd_ne wrap_i64s wrap_u64s wrap_u32s wrap_u8s wd_getD wd_set wd_len wd_replicate wd_one wd_fold fz_osl hupd_same aSix.eq_def aEqS.eq_def aEqB_bool aEqB_nsl aEqB_nil
attribute [local simp] szT2 byT2 agT2 unT2 zoT2 szT3 byT3 agT3 unT3 zoT3 szT26 byT26 agT26 flT26 fdT26_0 fdT26_1 fdT26_2 fdT26_3 zoT26 szT28 byT28 agT28 flT28 fdT28_0 fdT28_1 fdT28_2 zoT28 szT41 byT41 agT41 elT41 unT41 zoT41 szT67 byT67 agT67 flT67 fdT67_0 fdT67_1 zoT67 szT69 byT69 agT69 flT69 fdT69_0 fdT69_1 zoT69 szT113 byT113 agT113 flT113 fdT113_0 fdT113_1 zoT113 szT115 byT115 agT115 flT115 fdT115_0 fdT115_1 fdT115_2 zoT115

theorem gse_at {L : List Sg} {i : Nat} (h : i < L.length) : (L.map Sg.cells)[i]? = some [.int .i64 (gse L i).a.x, .int .i64 (gse L i).a.y, .int .i64 (gse L i).b.x, .int .i64 (gse L i).b.y] := by rw [List.getElem?_map, gse_get h]; rfl

set_option maxHeartbeats 1000000 in
theorem segsFaultI_fc (L : List Sg) (hl : L.length ≤ 1099511627776) : FC Try.prog 185 [.isl (L.map Sg.cells)] (.int .i64 (sgF L : Int)) := by
  refine FC.body Try.func185 rfl (by simp [idfL, idf, idfLL_iff, Sp.av, Sp.cells, Sg.av, Sg.cells]) (by simp [idfL, idf, idfLL_iff, idf_Wd', Sp.av, Sp.cells, Sg.av, Sg.cells]) 18 rfl fun nx K hK => ?_
  refine AWP.seqk fun K1 hK1 => ?_
  refine AWP.region (AOPS.all (by simp (disch := first|omega|(simp only[ln];omega)) [idf_Wd', Sp.av, Sp.cells, Sg.av, Sg.cells]; rfl) ?_)
  refine hK1 _ ?_
  refine AWP.seqk fun K2 hK2 => ?_
  refine AWP.seqk fun K3 hK3 => ?_
  refine AWP.region (AOPS.all (by simp (disch := first|omega|(simp only[ln];omega)) [idf_Wd', Sp.av, Sp.cells, Sg.av, Sg.cells, List.length_map]; rfl) ?_)
  refine hK3 _ ?_
  refine cond_ok (decide (40 < (L.length : Int))) (by simp (disch := first|omega|(simp only[ln];omega))) (fun h7 => ?_) (fun h7 => ?_)
  · try simp only [decide_eq_true_eq, decide_eq_false_iff_not] at h7
    refine AWP.seqk fun K4 hK4 => ?_
    refine AWP.region (AOPS.all (by simp (disch := first|omega|(simp only[ln];omega)) [idf_Wd', Sp.av, Sp.cells, Sg.av, Sg.cells]; rfl) ?_)
    refine hK4 _ ?_
    refine AWP.ret ?_
    exact hK _ _ _ _ trivial ((Fin.mk (by simp [aRes, aResL, aRes1, idf_Wd', Sp.av, Sp.cells, Sg.av, Sg.cells]; try rfl)).cast (by rw [sgF_many (by omega)]))
  · try simp only [decide_eq_true_eq, decide_eq_false_iff_not] at h7
    have h40 : ¬ 40 < L.length := by omega
    refine AWP.skip ?_
    refine hK2 _ ?_
    refine AWP.seqk fun K5 hK5 => ?_
    refine AWP.seqk fun K6 hK6 => ?_
    refine AWP.region (AOPS.all (by simp (disch := first|omega|(simp only[ln];omega)) [idf_Wd', Sp.av, Sp.cells, Sg.av, Sg.cells, List.length_map]; rfl) ?_)
    refine hK6 _ ?_
    refine AWP.block ?_
    
    refine AWP.loop (fun N s => ∃ i : Nat, N = L.length - i ∧ i ≤ L.length ∧ (∀ j, j < i → (gse L j).good = true) ∧ s.env 8 = .isl (L.map Sg.cells) ∧ s.env 9 = .int .i64 (L.length : Int) ∧ s.env 10 = .int .i64 (i : Int) ∧ s.nt = 18) (L.length) (⟨0, by omega, by omega, fun j h => by omega, by simp (disch := omega), by simp (disch := omega), by simp (disch := omega), rfl⟩) ?_
    rintro N ⟨e, H, mm, nt⟩ ⟨i, rfl, hi, hgd, g8, g9, g10, rfl⟩
    simp only [] at g8 g9 g10
    refine AWP.seqk fun K7 hK7 => ?_
    refine AWP.region (AOPS.all (by simp (disch := first|omega|(simp only[ln];omega)) [idf_Wd', Sp.av, Sp.cells, Sg.av, Sg.cells, g8, g9, g10, List.length_map]; rfl) ?_)
    refine hK7 _ ?_
    refine AWP.seqk fun K8 hK8 => ?_
    refine cond_ok _ (by simp (disch := first|omega|(simp only[ln];omega)); rfl) (fun h11 => ?_) (fun h11 => ?_)
    · try simp only [decide_eq_true_eq, decide_eq_false_iff_not] at h11
      have hi' : i < L.length := by omega
      have hat := gse_at hi'
      refine AWP.skip ?_
      refine hK8 _ ?_
      refine AWP.seqk fun K9 hK9 => ?_
      refine AWP.block ?_
      refine AWP.seqk fun K10 hK10 => ?_
      refine AWP.region (AOPS.all (by simp (disch := first|omega|(simp only[ln];omega)) [if_pos, idf_Wd', Sp.av, Sp.cells, Sg.av, Sg.cells, g8, g10, hat, List.length_map]; rfl) ?_)
      refine hK10 _ ?_
      refine AWP.seqk fun K11 hK11 => ?_
      refine AWP.region ?_
      refine AOPS.runk 1 (by simp (disch := first|omega|(simp only[ln];omega)) [List.take_succ_cons, List.take_zero, idf_Wd', Sp.av, Sp.cells, Sg.av, Sg.cells, g8, g9, g10, hat, List.length_map]; rfl) ?_
      simp only [List.drop_succ_cons, List.drop_zero]
      refine AOPS.fcall (segOkI_fc (gse L i)) rfl rfl rfl hb48 (by simp (disch := first|omega|(simp only[ln];omega)) [idf_Wd', g8, g9, g10, hat, List.length_map, Sp.av, Sp.cells, Sg.av, Sg.cells]) (by simp (disch := first|omega|(simp only[ln];omega)) [g8, g9, g10, hat, List.length_map]) (by simp) ?_
      simp only [puts_some, updo]
      refine AOPS.all (by simp (disch := first|omega|(simp only[ln];omega)) [idf_Wd', Sp.av, Sp.cells, Sg.av, Sg.cells, g8, g9, g10, hat, List.length_map]; rfl) ?_
      refine hK11 _ ?_
      refine cond_ok (!(gse L i).good) (by simp (disch := first|omega|(simp only[ln];omega))) (fun h16 => ?_) (fun h16 => ?_)
      · try simp only [decide_eq_true_eq, decide_eq_false_iff_not] at h16
        have hb : ¬ (gse L i).good = true := by simpa using h16
        refine AWP.seqk fun K12 hK12 => ?_
        refine AWP.region (AOPS.all (by simp (disch := first|omega|(simp only[ln];omega)) [idf_Wd', Sp.av, Sp.cells, Sg.av, Sg.cells]; rfl) ?_)
        refine hK12 _ ?_
        refine AWP.ret ?_
        exact hK _ _ _ _ trivial ((Fin.mk (by simp [aRes, aResL, aRes1, idf_Wd', Sp.av, Sp.cells, Sg.av, Sg.cells]; try rfl)).cast (by rw [sgF_bad h40 (gse_mem hi') hb]))
      · try simp only [decide_eq_true_eq, decide_eq_false_iff_not] at h16
        have hg1 : (gse L i).good = true := by simpa using h16
        refine AWP.skip ?_
        refine hK9 _ ?_
        refine AWP.region (AOPS.all (by simp (disch := first|omega|(simp only[ln];omega)) [idf_Wd', Sp.av, Sp.cells, Sg.av, Sg.cells, g10]; rfl) ?_)
        refine ⟨L.length - (i + 1), by omega, i + 1, rfl, by omega, fun j h => by rcases Nat.lt_succ_iff_lt_or_eq.1 h with h | h; exact hgd j h; rw [h]; exact hg1, by simp (disch := omega) [g8, g9, g10], by simp (disch := omega) [g8, g9, g10], by simp (disch := omega) [g8, g9, g10], rfl⟩
    · try simp only [decide_eq_true_eq, decide_eq_false_iff_not] at h11
      have hG : sgGood L := sgGood_of (by omega) hgd
      refine AWP.exit ?_
      refine hK5 _ ?_
      refine AWP.seqk fun K13 hK13 => ?_
      refine AWP.region (AOPS.all (by simp (disch := first|omega|(simp only[ln];omega)) [idf_Wd', Sp.av, Sp.cells, Sg.av, Sg.cells]; rfl) ?_)
      refine hK13 _ ?_
      refine AWP.ret ?_
      exact hK _ _ _ _ trivial ((Fin.mk (by simp [aRes, aResL, aRes1, idf_Wd', Sp.av, Sp.cells, Sg.av, Sg.cells]; try rfl)).cast (by rw [sgF_ok h40 hG]))

theorem areSegs_fc (L : List Sg) (hl : L.length ≤ 1099511627776) : FC Try.prog 97 [.isl (L.map Sg.cells)] (.bool (decide (sgF L = 0))) := by
  refine FC.body Try.func97 rfl (by simp [idfL, idf, idfLL_iff, Sp.av, Sp.cells, Sg.av, Sg.cells]) (by simp [idfL, idf, idfLL_iff, idf_Wd', Sp.av, Sp.cells, Sg.av, Sg.cells]) 6 rfl fun nx K hK => ?_
  refine AWP.seqk fun K1 hK1 => ?_
  refine AWP.region (AOPS.all (by simp (disch := first|omega|(simp only[ln];omega)) [idf_Wd', Sp.av, Sp.cells, Sg.av, Sg.cells]; rfl) ?_)
  refine hK1 _ ?_
  refine AWP.seqk fun K2 hK2 => ?_
  refine AWP.region ?_
  refine AOPS.runk 1 (by simp (disch := first|omega|(simp only[ln];omega)) [List.take_succ_cons, List.take_zero, idf_Wd', Sp.av, Sp.cells, Sg.av, Sg.cells]; rfl) ?_
  simp only [List.drop_succ_cons, List.drop_zero]
  refine AOPS.fcall (segsFaultI_fc L hl) rfl rfl rfl hb185 (by simp (disch := first|omega|(simp only[ln];omega)) [idf_Wd', Sp.av, Sp.cells, Sg.av, Sg.cells]) (by simp (disch := first|omega|(simp only[ln];omega))) (by simp) ?_
  simp only [puts_some, updo]
  refine AOPS.all (by simp (disch := first|omega|(simp only[ln];omega)) [idf_Wd', Sp.av, Sp.cells, Sg.av, Sg.cells]; rfl) ?_
  refine hK2 _ ?_
  refine AWP.ret ?_
  exact hK _ _ _ _ trivial ((Fin.mk (by simp [aRes, aResL, aRes1, idf_Wd', Sp.av, Sp.cells, Sg.av, Sg.cells]; try rfl)).cast (by rw [beqdI]))

set_option maxHeartbeats 1000000 in
theorem segsFaultS_fc (L : List Sg) (hl : L.length ≤ 1099511627776) : FC Try.prog 181 [.isl (L.map Sg.cells)] (.int .i64 (sgF L : Int)) := by
  refine FC.body Try.func181 rfl (by simp [idfL, idf, idfLL_iff, Sp.av, Sp.cells, Sg.av, Sg.cells]) (by simp [idfL, idf, idfLL_iff, idf_Wd', Sp.av, Sp.cells, Sg.av, Sg.cells]) 19 rfl fun nx K hK => ?_
  refine AWP.seqk fun K1 hK1 => ?_
  refine AWP.region (AOPS.all (by simp (disch := first|omega|(simp only[ln];omega)) [idf_Wd', Sp.av, Sp.cells, Sg.av, Sg.cells]; rfl) ?_)
  refine hK1 _ ?_
  refine AWP.seqk fun K2 hK2 => ?_
  refine AWP.seqk fun K3 hK3 => ?_
  refine AWP.region (AOPS.all (by simp (disch := first|omega|(simp only[ln];omega)) [idf_Wd', Sp.av, Sp.cells, Sg.av, Sg.cells, List.length_map]; rfl) ?_)
  refine hK3 _ ?_
  refine cond_ok (decide (40 < (L.length : Int))) (by simp (disch := first|omega|(simp only[ln];omega))) (fun h6 => ?_) (fun h6 => ?_)
  · try simp only [decide_eq_true_eq, decide_eq_false_iff_not] at h6
    refine AWP.seqk fun K4 hK4 => ?_
    refine AWP.region (AOPS.all (by simp (disch := first|omega|(simp only[ln];omega)) [idf_Wd', Sp.av, Sp.cells, Sg.av, Sg.cells]; rfl) ?_)
    refine hK4 _ ?_
    refine AWP.ret ?_
    exact hK _ _ _ _ trivial ((Fin.mk (by simp [aRes, aResL, aRes1, idf_Wd', Sp.av, Sp.cells, Sg.av, Sg.cells]; try rfl)).cast (by rw [sgF_many (by omega)]))
  · try simp only [decide_eq_true_eq, decide_eq_false_iff_not] at h6
    have h40 : ¬ 40 < L.length := by omega
    refine AWP.skip ?_
    refine hK2 _ ?_
    refine AWP.seqk fun K5 hK5 => ?_
    refine AWP.seqk fun K6 hK6 => ?_
    refine AWP.region (AOPS.all (by simp (disch := first|omega|(simp only[ln];omega)) [idf_Wd', Sp.av, Sp.cells, Sg.av, Sg.cells, List.length_map]; rfl) ?_)
    refine hK6 _ ?_
    refine AWP.block ?_
    
    refine AWP.loop (fun N s => ∃ i : Nat, N = L.length - i ∧ i ≤ L.length ∧ (∀ j, j < i → (gse L j).good = true) ∧ s.env 0 = .isl (L.map Sg.cells) ∧ s.env 3 = .int .i64 (i : Int) ∧ s.nt = 19) (L.length) (⟨0, by omega, by omega, fun j h => by omega, by simp (disch := omega), by simp (disch := omega), rfl⟩) ?_
    rintro N ⟨e, H, mm, nt⟩ ⟨i, rfl, hi, hgd, g0, g3, rfl⟩
    simp only [] at g0 g3
    refine AWP.seqk fun K7 hK7 => ?_
    refine AWP.seqk fun K8 hK8 => ?_
    refine AWP.region (AOPS.all (by simp (disch := first|omega|(simp only[ln];omega)) [idf_Wd', Sp.av, Sp.cells, Sg.av, Sg.cells, g0, g3, List.length_map]; rfl) ?_)
    refine hK8 _ ?_
    refine cond_ok _ (by simp (disch := first|omega|(simp only[ln];omega)); rfl) (fun h10 => ?_) (fun h10 => ?_)
    · try simp only [decide_eq_true_eq, decide_eq_false_iff_not] at h10
      have hi' : i < L.length := by omega
      have hat := gse_at hi'
      refine AWP.skip ?_
      refine hK7 _ ?_
      refine AWP.seqk fun K9 hK9 => ?_
      refine AWP.block ?_
      refine AWP.seqk fun K10 hK10 => ?_
      refine AWP.region ?_
      refine AOPS.runk 4 (by simp (disch := first|omega|(simp only[ln];omega)) [List.take_succ_cons, List.take_zero, if_pos, idf_Wd', Sp.av, Sp.cells, Sg.av, Sg.cells, g0, g3, hat, List.length_map]; rfl) ?_
      simp only [List.drop_succ_cons, List.drop_zero]
      refine AOPS.fcall (segOkS_fc (gse L i)) rfl rfl rfl hb122 (by simp (disch := first|omega|(simp only[ln];omega)) [idf_Wd', g0, g3, hat, List.length_map, Sp.av, Sp.cells, Sg.av, Sg.cells]) (by simp (disch := first|omega|(simp only[ln];omega)) [g0, g3, hat, List.length_map]) (by simp) ?_
      simp only [puts_some, updo]
      refine AOPS.all (by simp (disch := first|omega|(simp only[ln];omega)) [if_pos, idf_Wd', Sp.av, Sp.cells, Sg.av, Sg.cells, g0, g3, hat, List.length_map]; rfl) ?_
      refine hK10 _ ?_
      refine cond_ok (!(gse L i).good) (by simp (disch := first|omega|(simp only[ln];omega))) (fun h18 => ?_) (fun h18 => ?_)
      · try simp only [decide_eq_true_eq, decide_eq_false_iff_not] at h18
        have hb : ¬ (gse L i).good = true := by simpa using h18
        refine AWP.seqk fun K11 hK11 => ?_
        refine AWP.region (AOPS.all (by simp (disch := first|omega|(simp only[ln];omega)) [idf_Wd', Sp.av, Sp.cells, Sg.av, Sg.cells]; rfl) ?_)
        refine hK11 _ ?_
        refine AWP.ret ?_
        exact hK _ _ _ _ trivial ((Fin.mk (by simp [aRes, aResL, aRes1, idf_Wd', Sp.av, Sp.cells, Sg.av, Sg.cells]; try rfl)).cast (by rw [sgF_bad h40 (gse_mem hi') hb]))
      · try simp only [decide_eq_true_eq, decide_eq_false_iff_not] at h18
        have hg1 : (gse L i).good = true := by simpa using h18
        refine AWP.skip ?_
        refine hK9 _ ?_
        refine AWP.region (AOPS.all (by simp (disch := first|omega|(simp only[ln];omega)) [idf_Wd', Sp.av, Sp.cells, Sg.av, Sg.cells, g3]; rfl) ?_)
        refine ⟨L.length - (i + 1), by omega, i + 1, rfl, by omega, fun j h => by rcases Nat.lt_succ_iff_lt_or_eq.1 h with h | h; exact hgd j h; rw [h]; exact hg1, by simp (disch := omega) [g0, g3], by simp (disch := omega) [g0, g3], rfl⟩
    · try simp only [decide_eq_true_eq, decide_eq_false_iff_not] at h10
      have hG : sgGood L := sgGood_of (by omega) hgd
      refine AWP.exit ?_
      refine hK5 _ ?_
      refine AWP.seqk fun K12 hK12 => ?_
      refine AWP.region (AOPS.all (by simp (disch := first|omega|(simp only[ln];omega)) [idf_Wd', Sp.av, Sp.cells, Sg.av, Sg.cells]; rfl) ?_)
      refine hK12 _ ?_
      refine AWP.ret ?_
      exact hK _ _ _ _ trivial ((Fin.mk (by simp [aRes, aResL, aRes1, idf_Wd', Sp.av, Sp.cells, Sg.av, Sg.cells]; try rfl)).cast (by rw [sgF_ok h40 hG]))

theorem l7Ok_fc (L : List Sg) (hl : L.length ≤ 1099511627776) : FC Try.prog 94 [.isl (L.map Sg.cells)] (.bool (decide (sgF L = 0))) := by
  refine FC.body Try.func94 rfl (by simp [idfL, idf, idfLL_iff, Sp.av, Sp.cells, Sg.av, Sg.cells]) (by simp [idfL, idf, idfLL_iff, idf_Wd', Sp.av, Sp.cells, Sg.av, Sg.cells]) 6 rfl fun nx K hK => ?_
  refine AWP.seqk fun K1 hK1 => ?_
  refine AWP.region (AOPS.all (by simp (disch := first|omega|(simp only[ln];omega)) [idf_Wd', Sp.av, Sp.cells, Sg.av, Sg.cells]; rfl) ?_)
  refine hK1 _ ?_
  refine AWP.seqk fun K2 hK2 => ?_
  refine AWP.region ?_
  refine AOPS.runk 1 (by simp (disch := first|omega|(simp only[ln];omega)) [List.take_succ_cons, List.take_zero, idf_Wd', Sp.av, Sp.cells, Sg.av, Sg.cells]; rfl) ?_
  simp only [List.drop_succ_cons, List.drop_zero]
  refine AOPS.fcall (segsFaultS_fc L hl) rfl rfl rfl hb181 (by simp (disch := first|omega|(simp only[ln];omega)) [idf_Wd', Sp.av, Sp.cells, Sg.av, Sg.cells]) (by simp (disch := first|omega|(simp only[ln];omega))) (by simp) ?_
  simp only [puts_some, updo]
  refine AOPS.all (by simp (disch := first|omega|(simp only[ln];omega)) [idf_Wd', Sp.av, Sp.cells, Sg.av, Sg.cells]; rfl) ?_
  refine hK2 _ ?_
  refine AWP.ret ?_
  exact hK _ _ _ _ trivial ((Fin.mk (by simp [aRes, aResL, aRes1, idf_Wd', Sp.av, Sp.cells, Sg.av, Sg.cells]; try rfl)).cast (by rw [beqdI]))

end Go.Proofs.Ytmaebeknmiomnaa

/- Walks: rows of segments; FnExactQuiet, walked. -/
namespace Go.Proofs.Ytmaebeknmiomnaa
open Go Go.RowKit
set_option linter.unusedSimpArgs false
set_option linter.unusedVariables false
set_option maxRecDepth 100000
attribute [local simp] List.getElem?_cons_zero List.getElem?_cons_succ List.getElem?_toArray runOps stepOp.eq_def agd.eq_def dstOk.eq_def opVal.eq_def opNew.eq_def opSto.eq_def ev.eq_def cv.eq_def puts_some puts_none upd_ap lst.eq_def aBin.eq_def aUn.eq_def aBi_str aBi_isl aBi_osl aBi_nsl aBi_max aBi_min aBi_max3 aConv.eq_def aLd.eq_def aLoad.eq_def aField.eq_def aFld.eq_def aIdx_isl aIdx_osl aSlc_isl aSlc_osl aSlc_str aSlc_nsl bnd.eq_def evs_nil evs_cons aBuild.eq_def aFill splice.eq_def cells_agg cells_int cells_bool cells_str cells_nil cells_nsl cells_isl cells_osl cells_ptr cells_ip cells_fn cells_Wd one_int one_bool one_str one_nil one_nsl one_isl one_osl one_ptr one_ip one_fn one_Wd aSets hupd_eq hupd_ne wrap_i64s wrap_u64s wrap_u32s wrap_u8s wd_getD wd_set wd_len wd_replicate wd_one wd_fold fz_osl hupd_same aSix.eq_def aEqS.eq_def aEqB_bool aEqB_nsl aEqB_nil
attribute [local simp] szT2 byT2 agT2 unT2 zoT2 szT3 byT3 agT3 unT3 zoT3 szT4 byT4 agT4 unT4 zoT4 szT38 byT38 agT38 elT38 unT38 zoT38 szT41 byT41 agT41 elT41 unT41 zoT41 szT67 byT67 agT67 flT67 fdT67_0 fdT67_1 zoT67 szT69 byT69 agT69 flT69 fdT69_0 fdT69_1 zoT69 szT134 byT134 agT134 flT134 fdT134_0 fdT134_1 zoT134 szT136 byT136 agT136 flT136 fdT136_0 fdT136_1 zoT136

theorem szSegS_fc (l : List Sg) (n : Int) (h0 : 0 ≤ n) (h1 : n ≤ 9223372036854775807) (hl : l.length ≤ 9223372036854775807) : FC Try.prog 23 [.isl (l.map Sg.cells), .int .i64 n] (.int .i64 (szN l.length n)) := by
  refine FC.body Try.func23 rfl (by simp [idfL, idf, idfLL_iff, Sp.av, Sp.cells, Sg.av, Sg.cells]) (by simp [idfL, idf, idfLL_iff, idf_Wd', Sp.av, Sp.cells, Sg.av, Sg.cells]) 12 rfl fun nx K hK => ?_
  refine AWP.seqk fun K1 hK1 => ?_
  refine AWP.region (AOPS.all (by simp (disch := first|omega|(simp only[ln];omega)) [idf_Wd', Sp.av, Sp.cells, Sg.av, Sg.cells]; rfl) ?_)
  refine hK1 _ ?_
  refine AWP.seqk fun K2 hK2 => ?_
  refine AWP.region (AOPS.all (by simp (disch := first|omega|(simp only[ln];omega)) [idf_Wd', Sp.av, Sp.cells, Sg.av, Sg.cells, List.length_map]; rfl) ?_)
  refine hK2 _ ?_
  refine AWP.seqk fun K3 hK3 => ?_
  refine AWP.seqk fun K4 hK4 => ?_
  refine AWP.region (AOPS.all (by simp (disch := first|omega|(simp only[ln];omega)) [idf_Wd', Sp.av, Sp.cells, Sg.av, Sg.cells]; rfl) ?_)
  refine hK4 _ ?_
  refine cond_ok (decide (n - (l.length : Int) < 0)) (by simp (disch := first|omega|(simp only[ln];omega))) (fun h10 => ?_) (fun h10 => ?_)
  · try simp only [decide_eq_true_eq, decide_eq_false_iff_not] at h10
    refine AWP.seqk fun K5 hK5 => ?_
    refine AWP.region (AOPS.all (by simp (disch := first|omega|(simp only[ln];omega)) [idf_Wd', Sp.av, Sp.cells, Sg.av, Sg.cells]; rfl) ?_)
    refine hK5 _ ?_
    refine AWP.ret ?_
    exact hK _ _ _ _ trivial ((Fin.mk (by simp [aRes, aResL, aRes1, idf_Wd', Sp.av, Sp.cells, Sg.av, Sg.cells]; try rfl)).cast (by unfold szN; rw [if_pos h10]))
  · try simp only [decide_eq_true_eq, decide_eq_false_iff_not] at h10
    refine AWP.skip ?_
    refine hK3 _ ?_
    refine AWP.seqk fun K6 hK6 => ?_
    refine AWP.region (AOPS.all (by simp (disch := first|omega|(simp only[ln];omega)) [idf_Wd', Sp.av, Sp.cells, Sg.av, Sg.cells]; rfl) ?_)
    refine hK6 _ ?_
    refine AWP.ret ?_
    exact hK _ _ _ _ trivial ((Fin.mk (by simp [aRes, aResL, aRes1, idf_Wd', Sp.av, Sp.cells, Sg.av, Sg.cells]; try rfl)).cast (by unfold szN; rw [if_neg h10]))

set_option maxHeartbeats 1000000 in
theorem toSegS_fc (l : List Sg) (hl : l.length ≤ 1048576) : FC Try.prog 25 [.isl (l.map Sg.cells)] (.isl (l.map Sg.cells)) := by
  refine FC.body Try.func25 rfl (by simp [idfL, idf, idfLL_iff, Sp.av, Sp.cells, Sg.av, Sg.cells]) (by simp [idf, idfL, idfLL_iff, Sp.cells, Sg.cells]) 23 rfl fun nx K hK => ?_
  refine AWP.seqk fun K1 hK1 => ?_
  refine AWP.region (AOPS.all (by simp (disch := first|omega|(simp only[ln];omega)) [idf_Wd']; rfl) ?_)
  refine hK1 _ ?_
  refine AWP.seqk fun K2 hK2 => ?_
  refine AWP.region (AOPS.all (by simp (disch := first|omega|(simp only[ln];omega)) [if_pos, idf_Wd', List.length_map]; rfl) ?_)
  refine hK2 _ ?_
  refine AWP.seqk fun K3 hK3 => ?_
  refine AWP.seqk fun K4 hK4 => ?_
  refine AWP.region (AOPS.all (by simp (disch := first|omega|(simp only[ln];omega)) [idf_Wd']; rfl) ?_)
  refine hK4 _ ?_
  refine AWP.block ?_
  refine AWP.loop (fun N s => ∃ i id : Nat, N = l.length - i ∧ i ≤ l.length ∧ s.env 0 = .isl (l.map Sg.cells) ∧ s.env 3 = .osl id 0 l.length ∧ s.env 4 = .int .i64 (i : Int) ∧ s.heap id = some (4, fillR Sg.cells [.int .i64 0, .int .i64 0, .int .i64 0, .int .i64 0] l i) ∧ s.nt = 23) (l.length) (⟨0, nx, by omega, by omega, by simp, by simp, by simp, by simp [← fillR_zero], rfl⟩) ?_
  rintro N ⟨e, H, mm, nt⟩ ⟨i, id, rfl, hi, h0, h3, h4, hH, rfl⟩
  simp only [] at h0 h3 h4 hH
  refine AWP.seqk fun K5 hK5 => ?_
  refine AWP.seqk fun K6 hK6 => ?_
  refine AWP.region (AOPS.all (by simp (disch := first|omega|(simp only[ln];omega)) [idf_Wd', h0, h4, List.length_map]; rfl) ?_)
  refine hK6 _ ?_
  refine cond_ok _ (by simp (disch := first|omega|(simp only[ln];omega)); rfl) (fun h11 => ?_) (fun h11 => ?_)
  · try simp only [decide_eq_true_eq, decide_eq_false_iff_not] at h11
    have hi' : i < l.length := by omega
    obtain ⟨p, hpi⟩ : ∃ p, l[i]? = some p := ⟨l[i], by simp [hi']⟩
    have hpm : (l.map Sg.cells)[i]? = some p.cells := by rw [List.getElem?_map, hpi]; rfl
    have fst := fillR_set Sg.cells [.int .i64 0, .int .i64 0, .int .i64 0, .int .i64 0] l hpi
    simp only [Sg.cells] at fst
    have fl := fillR_len Sg.cells [.int .i64 0, .int .i64 0, .int .i64 0, .int .i64 0] l hi
    have fg := fillR_getE Sg.cells [.int .i64 0, .int .i64 0, .int .i64 0, .int .i64 0] l hi'
    refine AWP.skip ?_
    refine hK5 _ ?_
    refine AWP.seqk fun K7 hK7 => ?_
    refine AWP.block ?_
    refine AWP.region ?_
    refine AOPS.runk 6 (by simp (disch := first|omega|(simp only[ln];omega)) [List.take_succ_cons, List.take_zero, if_pos, idf_Wd', h0, h3, h4, hH, fl, fg, hpm, Sp.cells, Sg.cells, Sp.av, Sg.av, List.length_map]; rfl) ?_
    simp only [List.drop_succ_cons, List.drop_zero]
    refine AOPS.fcall (toSeg_fc p) rfl rfl rfl hb96 (by simp (disch := first|omega|(simp only[ln];omega)) [idf_Wd', h0, h3, h4, hH, fl, fg, hpm, Sp.cells, Sg.cells, Sp.av, Sg.av, List.length_map]) (by simp (disch := first|omega|(simp only[ln];omega)) [h0, h3, h4, hH, fl, fg, hpm, Sp.cells, Sg.cells, Sp.av, Sg.av, List.length_map]) (by simp) ?_
    simp only [puts_some, updo]
    refine AOPS.all (by simp (disch := first|omega|(simp only[ln];omega)) [if_pos, idf_Wd', h0, h3, h4, hH, fl, fg, hpm, Sp.cells, Sg.cells, Sp.av, Sg.av, List.length_map]; rfl) ?_
    refine hK7 _ ?_
    refine AWP.region (AOPS.all (by simp (disch := first|omega|(simp only[ln];omega)) [idf_Wd', h4]; rfl) ?_)
    refine ⟨l.length - (i + 1), by omega, i + 1, id, rfl, by omega, by simp [h0], by simp [h3], by simp (disch := omega) [h4], by simp [fst], rfl⟩
  · try simp only [decide_eq_true_eq, decide_eq_false_iff_not] at h11
    have hin : i = l.length := by omega
    rw [hin, fillR_all] at hH
    refine AWP.exit ?_
    refine hK3 _ ?_
    refine AWP.seqk fun K8 hK8 => ?_
    refine AWP.region (AOPS.all (by simp (disch := first|omega|(simp only[ln];omega)) [idf_Wd', h3]; rfl) ?_)
    refine hK8 _ ?_
    refine AWP.ret ?_
    exact hK _ _ _ _ trivial (((Fin.mk (r := .osl id 0 l.length) (by simp [aRes, aResL, aRes1, idf_Wd'])).freeze (id := id) (z := 4) (es := l.map Sg.cells) (by simp [hH])).cast (fz_fill _ _ rfl))

theorem eqSeg_fc (p : Sg) : FC Try.prog 100 [p.av, p.av] (.bool true) := by
  refine FC.body Try.func100 rfl (by simp [idfL, idf, idfLL_iff, Sp.av, Sp.cells, Sg.av, Sg.cells]) (by simp [idfL, idf, idfLL_iff, idf_Wd', Sp.av, Sp.cells, Sg.av, Sg.cells]) 17 rfl fun nx K hK => ?_
  refine AWP.seqk fun K1 hK1 => ?_
  refine AWP.region (AOPS.all (by simp (disch := first|omega|(simp only[ln];omega)) [idf_Wd', Sp.av, Sp.cells, Sg.av, Sg.cells]; rfl) ?_)
  refine hK1 _ ?_
  refine AWP.seqk fun K2 hK2 => ?_
  refine AWP.seqk fun K3 hK3 => ?_
  refine AWP.region ?_
  refine AOPS.runk 4 (by simp (disch := first|omega|(simp only[ln];omega)) [List.take_succ_cons, List.take_zero, idf_Wd', Sp.av, Sp.cells, Sg.av, Sg.cells]; rfl) ?_
  simp only [List.drop_succ_cons, List.drop_zero]
  refine AOPS.fcall (eqSpot_fc p.a) rfl rfl rfl hb189 (by simp (disch := first|omega|(simp only[ln];omega)) [idf_Wd', Sp.av, Sp.cells, Sg.av, Sg.cells]) (by simp (disch := first|omega|(simp only[ln];omega))) (by simp) ?_
  simp only [puts_some, updo]
  refine AOPS.all (by simp (disch := first|omega|(simp only[ln];omega)) [idf_Wd', Sp.av, Sp.cells, Sg.av, Sg.cells]; rfl) ?_
  refine hK3 _ ?_
  refine cond_ok _ (by simp (disch := first|omega|(simp only[ln];omega)); rfl) (fun h10 => ?_) (fun h10 => ?_)
  · simp at h10
  · try simp only [decide_eq_true_eq, decide_eq_false_iff_not] at h10
    refine AWP.skip ?_
    refine hK2 _ ?_
    refine AWP.seqk fun K4 hK4 => ?_
    refine AWP.seqk fun K5 hK5 => ?_
    refine AWP.region ?_
    refine AOPS.runk 4 (by simp (disch := first|omega|(simp only[ln];omega)) [List.take_succ_cons, List.take_zero, idf_Wd', Sp.av, Sp.cells, Sg.av, Sg.cells]; rfl) ?_
    simp only [List.drop_succ_cons, List.drop_zero]
    refine AOPS.fcall (eqSpot_fc p.b) rfl rfl rfl hb189 (by simp (disch := first|omega|(simp only[ln];omega)) [idf_Wd', Sp.av, Sp.cells, Sg.av, Sg.cells]) (by simp (disch := first|omega|(simp only[ln];omega))) (by simp) ?_
    simp only [puts_some, updo]
    refine AOPS.all (by simp (disch := first|omega|(simp only[ln];omega)) [idf_Wd', Sp.av, Sp.cells, Sg.av, Sg.cells]; rfl) ?_
    refine hK5 _ ?_
    refine cond_ok _ (by simp (disch := first|omega|(simp only[ln];omega)); rfl) (fun h16 => ?_) (fun h16 => ?_)
    · simp at h16
    · try simp only [decide_eq_true_eq, decide_eq_false_iff_not] at h16
      refine AWP.skip ?_
      refine hK4 _ ?_
      refine AWP.seqk fun K6 hK6 => ?_
      refine AWP.region (AOPS.all (by simp (disch := first|omega|(simp only[ln];omega)) [idf_Wd', Sp.av, Sp.cells, Sg.av, Sg.cells]; rfl) ?_)
      refine hK6 _ ?_
      refine AWP.ret ?_
      exact hK _ _ _ _ trivial ((Fin.mk (by simp [aRes, aResL, aRes1, idf_Wd', Sp.av, Sp.cells, Sg.av, Sg.cells]; try rfl)))

set_option maxHeartbeats 1000000 in
theorem eqSegS_fc (l : List Sg) (hl : l.length ≤ 9223372036854775807) : FC Try.prog 27 [.isl (l.map Sg.cells), .isl (l.map Sg.cells)] (.bool true) := by
  refine FC.body Try.func27 rfl (by simp [idfL, idf, idfLL_iff, Sp.av, Sp.cells, Sg.av, Sg.cells]) (by simp [idfL, idf, idfLL_iff, idf_Wd', Sp.av, Sp.cells, Sg.av, Sg.cells]) 27 rfl fun nx K hK => ?_
  refine AWP.seqk fun K1 hK1 => ?_
  refine AWP.region (AOPS.all (by simp (disch := first|omega|(simp only[ln];omega)) [idf_Wd', Sp.av, Sp.cells, Sg.av, Sg.cells]; rfl) ?_)
  refine hK1 _ ?_
  refine AWP.seqk fun K2 hK2 => ?_
  refine AWP.seqk fun K3 hK3 => ?_
  refine AWP.region (AOPS.all (by simp (disch := first|omega|(simp only[ln];omega)) [idf_Wd', Sp.av, Sp.cells, Sg.av, Sg.cells, List.length_map]; rfl) ?_)
  refine hK3 _ ?_
  refine cond_ok _ (by simp (disch := first|omega|(simp only[ln];omega)); rfl) (fun h10 => ?_) (fun h10 => ?_)
  · simp at h10
  · try simp only [decide_eq_true_eq, decide_eq_false_iff_not] at h10
    refine AWP.skip ?_
    refine hK2 _ ?_
    refine AWP.seqk fun K4 hK4 => ?_
    refine AWP.seqk fun K5 hK5 => ?_
    refine AWP.region (AOPS.all (by simp (disch := first|omega|(simp only[ln];omega)) [idf_Wd', Sp.av, Sp.cells, Sg.av, Sg.cells]; rfl) ?_)
    refine hK5 _ ?_
    refine AWP.block ?_
    
    refine AWP.loop (fun N s => ∃ i : Nat, N = l.length - i ∧ i ≤ l.length ∧ s.env 0 = .isl (l.map Sg.cells) ∧ s.env 1 = .isl (l.map Sg.cells) ∧ s.env 5 = .int .i64 (i : Int) ∧ s.nt = 27) (l.length) (⟨0, by omega, by omega, by simp (disch := omega), by simp (disch := omega), by simp (disch := omega), rfl⟩) ?_
    rintro N ⟨e, H, mm, nt⟩ ⟨i, rfl, hi, g0, g1, g5, rfl⟩
    simp only [] at g0 g1 g5
    refine AWP.seqk fun K6 hK6 => ?_
    refine AWP.seqk fun K7 hK7 => ?_
    refine AWP.region (AOPS.all (by simp (disch := first|omega|(simp only[ln];omega)) [idf_Wd', Sp.av, Sp.cells, Sg.av, Sg.cells, g0, g5, List.length_map]; rfl) ?_)
    refine hK7 _ ?_
    refine cond_ok _ (by simp (disch := first|omega|(simp only[ln];omega)); rfl) (fun h14 => ?_) (fun h14 => ?_)
    · try simp only [decide_eq_true_eq, decide_eq_false_iff_not] at h14
      have hi' : i < l.length := by omega
      obtain ⟨p, hpi⟩ : ∃ p, l[i]? = some p := ⟨l[i], by simp [hi']⟩
      have hpm : (l.map Sg.cells)[i]? = some p.cells := by rw [List.getElem?_map, hpi]; rfl
      refine AWP.skip ?_
      refine hK6 _ ?_
      refine AWP.seqk fun K8 hK8 => ?_
      refine AWP.block ?_
      refine AWP.seqk fun K9 hK9 => ?_
      refine AWP.draw 10 Try.checked.mixed (by kernel_rfl) (by simp) ?_
      simp only [List.take_succ_cons, List.take_zero, List.drop_succ_cons, List.drop_zero]
      refine DP.runFk 8 (by simp (disch := first|omega|(simp only[ln];omega)) [runDf.eq_def, runF1, runF2, stepF.eq_def, updo.eq_def, hupo.eq_def, opSto1.eq_def, List.take_succ_cons, List.take_zero, if_pos, idf_Wd', Sp.av, Sp.cells, Sg.av, Sg.cells, g0, g1, g5, hpm, List.length_map]; rfl) fun fs10 hfs10 => ?_
      replace hfs10 : fs10.length = 8 := hfs10.trans rfl
      simp only [List.drop_succ_cons, List.drop_zero]
      refine DP.fcall (eqSeg_fc p) rfl rfl rfl hb100 (by simp (disch := first|omega|(simp only[ln];omega)) [idf_Wd', g0, g1, g5, hpm, List.length_map, Sp.av, Sp.cells, Sg.av, Sg.cells]) (by simp (disch := first|omega|(simp only[ln];omega)) [g0, g1, g5, hpm, List.length_map]) (by simp) ?_
      simp only [updo]
      refine DP.runFk 1 (by simp (disch := first|omega|(simp only[ln];omega)) [runDf.eq_def, runF1, runF2, stepF.eq_def, updo.eq_def, hupo.eq_def, opSto1.eq_def, List.take_succ_cons, List.take_zero, if_pos, idf_Wd', Sp.av, Sp.cells, Sg.av, Sg.cells, g0, g1, g5, hpm, List.length_map]; rfl) fun fs11 hfs11 => ?_
      replace hfs11 : fs11.length = 1 := hfs11.trans rfl
      simp only [List.drop_succ_cons, List.drop_zero]
      refine DQ.runF (m := 10) (by simp only [List.length_append, List.length_cons, List.length_nil, hfs10, hfs11]; omega) _ _ _ (by kernel_rfl) rfl (by simp (disch := first|omega|(simp only[ln];omega)) [runDf.eq_def, runF1, runF2, stepF.eq_def, updo.eq_def, hupo.eq_def, opSto1.eq_def, if_pos, idf_Wd', Sp.av, Sp.cells, Sg.av, Sg.cells, g0, g1, g5, hpm, List.length_map]; rfl) ?_
      refine hK9 _ ?_
      refine cond_ok _ (by simp (disch := first|omega|(simp only[ln];omega)); rfl) (fun h26 => ?_) (fun h26 => ?_)
      · simp at h26
      · try simp only [decide_eq_true_eq, decide_eq_false_iff_not] at h26
        refine AWP.skip ?_
        refine hK8 _ ?_
        refine AWP.region (AOPS.all (by simp (disch := first|omega|(simp only[ln];omega)) [idf_Wd', Sp.av, Sp.cells, Sg.av, Sg.cells, g5]; rfl) ?_)
        refine ⟨l.length - (i + 1), by omega, i + 1, rfl, by omega, by simp (disch := omega) [g0, g1, g5], by simp (disch := omega) [g0, g1, g5], by simp (disch := omega) [g0, g1, g5], rfl⟩
    · try simp only [decide_eq_true_eq, decide_eq_false_iff_not] at h14
      refine AWP.exit ?_
      refine hK4 _ ?_
      refine AWP.seqk fun K12 hK12 => ?_
      refine AWP.region (AOPS.all (by simp (disch := first|omega|(simp only[ln];omega)) [idf_Wd', Sp.av, Sp.cells, Sg.av, Sg.cells]; rfl) ?_)
      refine hK12 _ ?_
      refine AWP.ret ?_
      exact hK _ _ _ _ trivial ((Fin.mk (by simp [aRes, aResL, aRes1, idf_Wd', Sp.av, Sp.cells, Sg.av, Sg.cells]; try rfl)))

end Go.Proofs.Ytmaebeknmiomnaa

/- Walks: pairs of segments that meet. -/
namespace Go.Proofs.Ytmaebeknmiomnaa
open Go Go.RowKit
set_option linter.unusedSimpArgs false
set_option linter.unusedVariables false
set_option maxRecDepth 100000
attribute [local simp] List.getElem?_cons_zero List.getElem?_cons_succ List.getElem?_toArray runOps stepOp.eq_def agd.eq_def dstOk.eq_def opVal.eq_def opNew.eq_def opSto.eq_def ev.eq_def cv.eq_def puts_some puts_none upd_ap lst.eq_def aBin.eq_def aUn.eq_def aBi_str aBi_isl aBi_osl aBi_nsl aBi_max aBi_min aBi_max3 aConv.eq_def aLd.eq_def aLoad.eq_def aField.eq_def aFld.eq_def aIdx_isl aIdx_osl aSlc_isl aSlc_osl aSlc_str aSlc_nsl bnd.eq_def evs_nil evs_cons aBuild.eq_def aFill splice.eq_def cells_agg cells_int cells_bool cells_str cells_nil cells_nsl cells_isl cells_osl cells_ptr cells_ip cells_fn cells_Wd one_int one_bool one_str one_nil one_nsl one_isl one_osl one_ptr one_ip one_fn one_Wd aSets hupd_eq hupd_ne wrap_i64s wrap_u64s wrap_u32s wrap_u8s wd_getD wd_set wd_len wd_replicate wd_one wd_fold fz_osl hupd_same aSix.eq_def aEqS.eq_def aEqB_bool aEqB_nsl aEqB_nil
attribute [local simp] szT2 byT2 agT2 unT2 zoT2 szT3 byT3 agT3 unT3 zoT3 szT26 byT26 agT26 flT26 fdT26_0 fdT26_1 fdT26_2 fdT26_3 zoT26 szT28 byT28 agT28 flT28 fdT28_0 fdT28_1 fdT28_2 zoT28 szT41 byT41 agT41 elT41 unT41 zoT41 szT67 byT67 agT67 flT67 fdT67_0 fdT67_1 zoT67 szT69 byT69 agT69 flT69 fdT69_0 fdT69_1 zoT69 szT84 byT84 agT84 elT84 unT84 zoT84 szT113 byT113 agT113 flT113 fdT113_0 fdT113_1 zoT113 szT115 byT115 agT115 flT115 fdT115_0 fdT115_1 fdT115_2 zoT115 szT167 byT167 agT167 flT167 fdT167_0 fdT167_1 zoT167

set_option maxHeartbeats 4000000 in
theorem crossPairs_own (L : List Sg) (hl : L.length ≤ 1099511627776) (hz : sgF L = 0) (nx : Nat) : ACall Try.prog 54 [.isl (L.map Sg.cells)] (fun _ => none) nx (own1 nx 2 ((cpF L).map prC) (fun id => .tup [.osl id 0 (cpF L).length, .bool true])) := by
  obtain ⟨z1, z2⟩ := sgF_zero hz
  refine ACall.body Try.func54 rfl 50 rfl fun K hK => ?_
  refine AWP.seqk fun K1 hK1 => ?_
  refine AWP.region (AOPS.all (by simp (disch := first|omega|(simp only[ln];omega)) [idf_Wd', Sp.av, Sp.cells, Sg.av, Sg.cells]; rfl) ?_)
  refine hK1 _ ?_
  refine AWP.seqk fun K2 hK2 => ?_
  refine AWP.seqk fun K3 hK3 => ?_
  refine AWP.region ?_
  refine AOPS.runk 1 (by simp (disch := first|omega|(simp only[ln];omega)) [List.take_succ_cons, List.take_zero, idf_Wd', Sp.av, Sp.cells, Sg.av, Sg.cells]; rfl) ?_
  simp only [List.drop_succ_cons, List.drop_zero]
  refine AOPS.fcall (areSegs_fc L hl) rfl rfl rfl hb97 (by simp (disch := first|omega|(simp only[ln];omega)) [idf_Wd', Sp.av, Sp.cells, Sg.av, Sg.cells]) (by simp (disch := first|omega|(simp only[ln];omega))) (by simp) ?_
  simp only [puts_some, updo]
  refine AOPS.all (by simp (disch := first|omega|(simp only[ln];omega)) [idf_Wd', Sp.av, Sp.cells, Sg.av, Sg.cells]; rfl) ?_
  refine hK3 _ ?_
  refine cond_ok (!decide (sgF L = 0)) (by simp (disch := first|omega|(simp only[ln];omega))) (fun h13 => ?_) (fun h13 => ?_)
  · simp [hz] at h13
  · try simp only [decide_eq_true_eq, decide_eq_false_iff_not] at h13
    refine AWP.skip ?_
    refine hK2 _ ?_
    refine AWP.seqk fun K4 hK4 => ?_
    refine AWP.region (AOPS.all (by simp (disch := first|omega|(simp only[ln];omega)) [idf_Wd', Sp.av, Sp.cells, Sg.av, Sg.cells]; rfl) ?_)
    refine hK4 _ ?_
    refine AWP.seqk fun K5 hK5 => ?_
    refine AWP.seqk fun K6 hK6 => ?_
    refine AWP.region (AOPS.all (by simp (disch := first|omega|(simp only[ln];omega)) [idf_Wd', Sp.av, Sp.cells, Sg.av, Sg.cells, List.length_map]; rfl) ?_)
    refine hK6 _ ?_
    refine AWP.block ?_
    
    refine AWP.loop (fun N s => ∃ i : Nat, ∃ C : List (Nat × Nat), ∃ io : Nat, N = L.length - i ∧ i ≤ L.length ∧ (C = cpL L i) ∧ (nx ≤ io) ∧ s.env 0 = .isl (L.map Sg.cells) ∧ s.env 15 = .isl (L.map Sg.cells) ∧ s.env 16 = .int .i64 (L.length : Int) ∧ s.env 17 = .int .i64 (i : Int) ∧ s.env 4 = .osl io 0 C.length ∧ s.heap io = some (2, C.map prC) ∧ io < s.nx ∧ s.nt = 50) (L.length) (⟨0, [], nx, by omega, by omega, rfl, by omega, by simp (disch := omega), by simp (disch := omega), by simp (disch := omega), by simp (disch := omega), by simp (disch := omega), by simp (disch := omega), by first | omega | (simp; done) | (simp; omega), rfl⟩) ?_
    rintro N ⟨e, H, mm, nt⟩ ⟨i, C, io, rfl, hi, hC, hio, g0, g15, g16, g17, g4, Ho, xo, rfl⟩
    simp only [] at g0 g15 g16 g17 g4 Ho xo
    refine AWP.seqk fun K7 hK7 => ?_
    refine AWP.region (AOPS.all (by simp (disch := first|omega|(simp only[ln];omega)) [idf_Wd', Sp.av, Sp.cells, Sg.av, Sg.cells, g16, g17]; rfl) ?_)
    refine hK7 _ ?_
    refine AWP.seqk fun K8 hK8 => ?_
    refine cond_ok _ (by simp (disch := first|omega|(simp only[ln];omega)); rfl) (fun h18 => ?_) (fun h18 => ?_)
    · try simp only [decide_eq_true_eq, decide_eq_false_iff_not] at h18
      have hi' : i < L.length := by omega
      have hat := gse_at hi'
      have gi := z2 _ (gse_mem hi')
      refine AWP.skip ?_
      refine hK8 _ ?_
      refine AWP.seqk fun K9 hK9 => ?_
      refine AWP.block ?_
      refine AWP.seqk fun K10 hK10 => ?_
      refine AWP.region (AOPS.all (by simp (disch := first|omega|(simp only[ln];omega)) [if_pos, idf_Wd', Sp.av, Sp.cells, Sg.av, Sg.cells, g15, g17, hat, List.length_map]; rfl) ?_)
      refine hK10 _ ?_
      refine AWP.seqk fun K11 hK11 => ?_
      refine AWP.region (AOPS.all (by simp (disch := first|omega|(simp only[ln];omega)) [idf_Wd', Sp.av, Sp.cells, Sg.av, Sg.cells]; rfl) ?_)
      refine hK11 _ ?_
      refine AWP.block ?_
      
      refine AWP.loop (fun N s => ∃ k : Nat, ∃ C : List (Nat × Nat), ∃ io : Nat, ∃ id : Nat, N = L.length - k ∧ k ≤ L.length ∧ (C = cpL L i ++ cpR L i k) ∧ (i < k) ∧ (nx ≤ io) ∧ (io ≠ id) ∧ s.env 0 = .isl (L.map Sg.cells) ∧ s.env 15 = .isl (L.map Sg.cells) ∧ s.env 16 = .int .i64 (L.length : Int) ∧ s.env 17 = .int .i64 (i : Int) ∧ s.env 5 = .int .i64 (i : Int) ∧ s.env 6 = .ptr id 0 0 ∧ s.env 7 = .int .i64 (k : Int) ∧ s.env 4 = .osl io 0 C.length ∧ s.heap id = some (4, [[.int .i64 (gse L i).a.x, .int .i64 (gse L i).a.y, .int .i64 (gse L i).b.x, .int .i64 (gse L i).b.y]]) ∧ id < s.nx ∧ s.heap io = some (2, C.map prC) ∧ io < s.nx ∧ s.nt = 50) (L.length - (i + 1)) (⟨(i + 1), C, io, mm, by omega, by omega, by rw [cpR_start, List.append_nil]; exact hC, by omega, hio, by omega, by simp (disch := omega) [g0, g15, g16, g17, g4, Ho], by simp (disch := omega) [g0, g15, g16, g17, g4, Ho], by simp (disch := omega) [g0, g15, g16, g17, g4, Ho], by simp (disch := omega) [g0, g15, g16, g17, g4, Ho], by simp (disch := omega) [g0, g15, g16, g17, g4, Ho], by simp (disch := omega) [g0, g15, g16, g17, g4, Ho], by simp (disch := omega) [g0, g15, g16, g17, g4, Ho], by simp (disch := omega) [g0, g15, g16, g17, g4, Ho], by simp (disch := omega) [g0, g15, g16, g17, g4, Ho], by first | omega | (simp; done) | (simp; omega), by simp (disch := omega) [g0, g15, g16, g17, g4, Ho], by first | omega | (simp; done) | (simp; omega), rfl⟩) ?_
      clear g0 g15 g16 g17 g4 Ho xo hC
      rintro N ⟨e, H, mm, nt⟩ ⟨k, C, io, id, rfl, hk, hC, hik, hio, hne, g0, g15, g16, g17, g5, g6, g7, g4, Hs, xs, Ho, xo, rfl⟩
      simp only [] at g0 g15 g16 g17 g5 g6 g7 g4 Hs xs Ho xo
      refine AWP.seqk fun K12 hK12 => ?_
      refine AWP.seqk fun K13 hK13 => ?_
      refine AWP.region (AOPS.all (by simp (disch := first|omega|(simp only[ln];omega)) [idf_Wd', Sp.av, Sp.cells, Sg.av, Sg.cells, g0, g7, List.length_map]; rfl) ?_)
      refine hK13 _ ?_
      refine cond_ok _ (by simp (disch := first|omega|(simp only[ln];omega)); rfl) (fun h27 => ?_) (fun h27 => ?_)
      · try simp only [decide_eq_true_eq, decide_eq_false_iff_not] at h27
        have hk' : k < L.length := by omega
        have hatk := gse_at hk'
        have gk := z2 _ (gse_mem hk')
        have hmt := meetI_fc (gse L i) (gse L k) gi gk
        obtain ⟨M, hM⟩ : ∃ M, meetI (gse L i) (gse L k) = M := ⟨_, rfl⟩
        rw [hM] at hmt
        refine AWP.skip ?_
        refine hK12 _ ?_
        refine AWP.seqk fun K14 hK14 => ?_
        refine AWP.block ?_
        refine AWP.seqk fun K15 hK15 => ?_
        refine AWP.old fun hold => ?_
        refine AWP.draw 12 Try.checked.mixed (by kernel_rfl) (by simp) ?_
        simp only [List.take_succ_cons, List.take_zero, List.drop_succ_cons, List.drop_zero]
        refine DP.runFk 5 (by simp (disch := first|omega|(simp only[ln];omega)) [runDf.eq_def, runF1, runF2, stepF.eq_def, updo.eq_def, hupo.eq_def, opSto1.eq_def, List.take_succ_cons, List.take_zero, if_pos, idf_Wd', Sp.av, Sp.cells, Sg.av, Sg.cells, g0, g6, g7, Hs, hatk, List.length_map]; rfl) fun fs16 hfs16 => ?_
        replace hfs16 : fs16.length = 5 := hfs16.trans rfl
        simp only [List.drop_succ_cons, List.drop_zero]
        refine DP.fcall (hmt) rfl rfl rfl hb98 (by simp (disch := first|omega|(simp only[ln];omega)) [idf_Wd', g0, g6, g7, Hs, hatk, List.length_map, Sp.av, Sp.cells, Sg.av, Sg.cells]) (by simp (disch := first|omega|(simp only[ln];omega)) [g0, g6, g7, Hs, hatk, List.length_map]) (by simp) ?_
        simp only [updo]
        refine DP.runFk 3 (by simp (disch := first|omega|(simp only[ln];omega)) [runDf.eq_def, runF1, runF2, stepF.eq_def, updo.eq_def, hupo.eq_def, opSto1.eq_def, List.take_succ_cons, List.take_zero, if_pos, idf_Wd', Sp.av, Sp.cells, Sg.av, Sg.cells, g0, g6, g7, Hs, hatk, List.length_map]; rfl) fun fs17 hfs17 => ?_
        replace hfs17 : fs17.length = 3 := hfs17.trans rfl
        simp only [List.drop_succ_cons, List.drop_zero]
        refine DP.runF1q (by simp (disch := first|omega|(simp only[ln];omega)) [runDf.eq_def, runF1, runF2, stepF.eq_def, updo.eq_def, hupo.eq_def, opSto1.eq_def, if_pos, idf_Wd', Sp.av, Sp.cells, Sg.av, Sg.cells, g0, g6, g7, Hs, hatk, List.length_map]; rfl) fun fq18 hfq18 => ?_
        simp [qids, asksB, Op.operands, topId] at hfq18
        simp only [updo]
        refine DP.runFk 2 (by simp (disch := first|omega|(simp only[ln];omega)) [runDf.eq_def, runF1, runF2, stepF.eq_def, updo.eq_def, hupo.eq_def, opSto1.eq_def, List.take_succ_cons, List.take_zero, if_pos, idf_Wd', Sp.av, Sp.cells, Sg.av, Sg.cells, g0, g6, g7, Hs, hatk, List.length_map]; rfl) fun fs19 hfs19 => ?_
        replace hfs19 : fs19.length = 2 := hfs19.trans rfl
        simp only [List.drop_succ_cons, List.drop_zero]
        refine DQ.asg1 _ rfl rfl ?_
        simp only [updo]
        refine DQ.sto1 (m := 12) [9] _ (by simp (disch := first|omega|(simp only[ln];omega)) [runDf.eq_def, runF1, runF2, stepF.eq_def, updo.eq_def, hupo.eq_def, opSto1.eq_def, if_pos, idf_Wd', Sp.av, Sp.cells, Sg.av, Sg.cells, g0, g6, g7, Hs, hatk, List.length_map]; rfl) rfl (by simp only [List.length_append, List.length_cons, List.length_nil, hfs16, hfs17, hfs19]; omega) (by kernel_rfl) (by intro k f hk hex; simp only [List.mem_cons, List.not_mem_nil, or_false] at hex; rcases hex with rfl <;> (simp [List.getElem?_append, hfs16, hfs17, hfs19] at hk; subst hk; refine ⟨?_, by first | omega | (simp; done) | (simp; omega)⟩; simp [qids, asksB, Op.operands, Call.operands, topId, numS, numI, Wd, hfq18, g0, g6, g7]; try omega)) ?_
        try simp only []
        refine DQ.sto1 (m := 12) [] _ (by simp (disch := first|omega|(simp only[ln];omega)) [runDf.eq_def, runF1, runF2, stepF.eq_def, updo.eq_def, hupo.eq_def, opSto1.eq_def, if_pos, idf_Wd', Sp.av, Sp.cells, Sg.av, Sg.cells, g0, g6, g7, Hs, hatk, List.length_map]; rfl) rfl (by simp only [List.length_append, List.length_cons, List.length_nil, hfs16, hfs17, hfs19]; omega) (by kernel_rfl) (by intro k f hk hex; simp only [List.not_mem_nil] at hex) ?_
        try simp only []
        refine hK15 _ ?_
        refine AWP.seqk fun K20 hK20 => ?_
        refine AWP.region (AOPS.all (by simp (disch := first|omega|(simp only[ln];omega)) [idf_Wd', Sp.av, Sp.cells, Sg.av, Sg.cells]; rfl) ?_)
        refine hK20 _ ?_
        refine cond_ok (M.1 != 0) (by simp (disch := first|omega|(simp only[ln];omega)) [bne]) (fun h41 => ?_) (fun h41 => ?_)
        · try simp only [decide_eq_true_eq, decide_eq_false_iff_not] at h41
          have hm1 : ¬ mks L i k = 0 := by unfold mks; rw [hM]; simpa using h41
          have hcl := cp_len z1 (show i ≤ L.length by omega) (show k ≤ L.length by omega)
          rw [← hC] at hcl
          have hap : (C ++ [(i, k)]).map prC = C.map prC ++ [[.int .i64 (i : Int), .int .i64 (k : Int)]] := by rw [List.map_append]; rfl
          have htk : List.take C.length (List.map prC C) = List.map prC C := List.take_of_length_le (by simp)
          have hc1 : (C.length + 1) * 16 ≤ 140737488355328 := by omega
          have hc2 : C.length ≤ 9223372036854775806 := by omega
          refine AWP.region ?_
          refine AOPS.runk 5 (by simp (disch := first|omega|(simp only[ln];omega)) [List.take_succ_cons, List.take_zero, idf_Wd', Sp.av, Sp.cells, Sg.av, Sg.cells, g4, g5, g7, Ho, hc1, hc2, List.length_map]; rfl) ?_
          simp only [List.drop_succ_cons, List.drop_zero]
          refine AOPS.opapp (by simp (disch := first|omega|(simp only[ln];omega)) [opApp.eq_def, aSrc_isl, aSrc_osl, aSrc_nsl, aSrc_int, wd_app, wd_app2, if_pos, wd_append, wd_take, wd_drop, List.nil_append, idf_Wd', Sp.av, Sp.cells, Sg.av, Sg.cells, g4, g5, g7, Ho, hc1, hc2, List.length_map, src_Wd' (P := Try.prog) elT84]; first | rfl | exact ⟨rfl, rfl⟩ | exact ⟨rfl, rfl, rfl⟩) (by simp) (by simp) ?_
          simp only [puts_some, hdrop]
          refine AOPS.all (by simp (disch := first|omega|(simp only[ln];omega)) [idf_Wd', Sp.av, Sp.cells, Sg.av, Sg.cells, g4, g5, g7, Ho, hc1, hc2, List.length_map]; rfl) ?_
          refine hK14 _ ?_
          refine AWP.region (AOPS.all (by simp (disch := first|omega|(simp only[ln];omega)) [idf_Wd', Sp.av, Sp.cells, Sg.av, Sg.cells, g7]; rfl) ?_)
          refine ⟨L.length - (k + 1), by omega, k + 1, (C ++ [(i, k)]), (mm + 15 + 1), id, rfl, by omega, by rw [cpR_yes hik hm1, hC, List.append_assoc], by omega, by omega, by omega, by simp (disch := omega) [g0, g15, g16, g17, g5, g6, g7, g4, Hs, Ho, hap, htk, List.length_append], by simp (disch := omega) [g0, g15, g16, g17, g5, g6, g7, g4, Hs, Ho, hap, htk, List.length_append], by simp (disch := omega) [g0, g15, g16, g17, g5, g6, g7, g4, Hs, Ho, hap, htk, List.length_append], by simp (disch := omega) [g0, g15, g16, g17, g5, g6, g7, g4, Hs, Ho, hap, htk, List.length_append], by simp (disch := omega) [g0, g15, g16, g17, g5, g6, g7, g4, Hs, Ho, hap, htk, List.length_append], by simp (disch := omega) [g0, g15, g16, g17, g5, g6, g7, g4, Hs, Ho, hap, htk, List.length_append], by simp (disch := omega) [g0, g15, g16, g17, g5, g6, g7, g4, Hs, Ho, hap, htk, List.length_append], by simp (disch := omega) [g0, g15, g16, g17, g5, g6, g7, g4, Hs, Ho, hap, htk, List.length_append], by simp (disch := omega) [g0, g15, g16, g17, g5, g6, g7, g4, Hs, Ho, hap, htk, List.length_append], by first | omega | (simp; done) | (simp; omega), by simp (disch := omega) [g0, g15, g16, g17, g5, g6, g7, g4, Hs, Ho, hap, htk, List.length_append], by first | omega | (simp; done) | (simp; omega), rfl⟩
        · try simp only [decide_eq_true_eq, decide_eq_false_iff_not] at h41
          have hm0 : mks L i k = 0 := by unfold mks; rw [hM]; simpa using h41
          refine AWP.skip ?_
          refine hK14 _ ?_
          refine AWP.region (AOPS.all (by simp (disch := first|omega|(simp only[ln];omega)) [idf_Wd', Sp.av, Sp.cells, Sg.av, Sg.cells, g7]; rfl) ?_)
          refine ⟨L.length - (k + 1), by omega, k + 1, C, io, id, rfl, by omega, by rw [cpR_no hm0]; exact hC, by omega, by omega, by omega, by simp (disch := omega) [g0, g15, g16, g17, g5, g6, g7, g4, Hs, Ho], by simp (disch := omega) [g0, g15, g16, g17, g5, g6, g7, g4, Hs, Ho], by simp (disch := omega) [g0, g15, g16, g17, g5, g6, g7, g4, Hs, Ho], by simp (disch := omega) [g0, g15, g16, g17, g5, g6, g7, g4, Hs, Ho], by simp (disch := omega) [g0, g15, g16, g17, g5, g6, g7, g4, Hs, Ho], by simp (disch := omega) [g0, g15, g16, g17, g5, g6, g7, g4, Hs, Ho], by simp (disch := omega) [g0, g15, g16, g17, g5, g6, g7, g4, Hs, Ho], by simp (disch := omega) [g0, g15, g16, g17, g5, g6, g7, g4, Hs, Ho], by simp (disch := omega) [g0, g15, g16, g17, g5, g6, g7, g4, Hs, Ho], by first | omega | (simp; done) | (simp; omega), by simp (disch := omega) [g0, g15, g16, g17, g5, g6, g7, g4, Hs, Ho], by first | omega | (simp; done) | (simp; omega), rfl⟩
      · try simp only [decide_eq_true_eq, decide_eq_false_iff_not] at h27
        have hkn : k = L.length := by omega
        have hC' : C = cpL L (i + 1) := by rw [cpL_step, hC, hkn]
        refine AWP.exit ?_
        refine hK9 _ ?_
        refine AWP.region (AOPS.all (by simp (disch := first|omega|(simp only[ln];omega)) [idf_Wd', Sp.av, Sp.cells, Sg.av, Sg.cells, g17]; rfl) ?_)
        refine ⟨L.length - (i + 1), by omega, i + 1, C, io, rfl, by omega, hC', hio, by simp (disch := omega) [g0, g15, g16, g17, g4, Ho], by simp (disch := omega) [g0, g15, g16, g17, g4, Ho], by simp (disch := omega) [g0, g15, g16, g17, g4, Ho], by simp (disch := omega) [g0, g15, g16, g17, g4, Ho], by simp (disch := omega) [g0, g15, g16, g17, g4, Ho], by simp (disch := omega) [g0, g15, g16, g17, g4, Ho], by first | omega | (simp; done) | (simp; omega), rfl⟩
    · try simp only [decide_eq_true_eq, decide_eq_false_iff_not] at h18
      have hin : i = L.length := by omega
      subst hin
      have hCF : C = cpF L := hC
      subst hCF
      refine AWP.exit ?_
      refine hK5 _ ?_
      refine AWP.seqk fun K21 hK21 => ?_
      refine AWP.region (AOPS.all (by simp (disch := first|omega|(simp only[ln];omega)) [idf_Wd', Sp.av, Sp.cells, Sg.av, Sg.cells, g4]; rfl) ?_)
      refine hK21 _ ?_
      refine AWP.ret ?_
      exact hK _ _ _ _ _ trivial (Fin.own1 (Fin.mk (by simp (disch := omega) [aRes, aResL, aRes1, idf_Wd', Sp.av, Sp.cells, Sg.av, Sg.cells]; try rfl)) (id := io) (by simp (disch := omega) [Ho])) (⟨io, by first | omega | (simp; done) | (simp; omega), by first | omega | (simp; done) | (simp; omega), rfl, rfl⟩)

set_option maxHeartbeats 4000000 in
theorem crossPairsS_fc (L : List Sg) (hl : L.length ≤ 1099511627776) (hz : sgF L = 0) : FC Try.prog 53 [.isl (L.map Sg.cells)] (.tup [.isl ((cpF L).map prC), .bool true]) := by
  obtain ⟨z1, z2⟩ := sgF_zero hz
  refine FC.body Try.func53 rfl (by simp [idfL, idf, idfLL_iff, Sp.av, Sp.cells, Sg.av, Sg.cells]) (⟨(idfLL_iff _).2 fun l h => by obtain ⟨p, _, rfl⟩ := List.mem_map.1 h; simp [prC, idfL, idf], trivial, trivial⟩) 50 rfl fun nx K hK => ?_
  refine AWP.seqk fun K1 hK1 => ?_
  refine AWP.region (AOPS.all (by simp (disch := first|omega|(simp only[ln];omega)) [idf_Wd', Sp.av, Sp.cells, Sg.av, Sg.cells]; rfl) ?_)
  refine hK1 _ ?_
  refine AWP.seqk fun K2 hK2 => ?_
  refine AWP.seqk fun K3 hK3 => ?_
  refine AWP.region ?_
  refine AOPS.runk 1 (by simp (disch := first|omega|(simp only[ln];omega)) [List.take_succ_cons, List.take_zero, idf_Wd', Sp.av, Sp.cells, Sg.av, Sg.cells]; rfl) ?_
  simp only [List.drop_succ_cons, List.drop_zero]
  refine AOPS.fcall (l7Ok_fc L hl) rfl rfl rfl hb94 (by simp (disch := first|omega|(simp only[ln];omega)) [idf_Wd', Sp.av, Sp.cells, Sg.av, Sg.cells]) (by simp (disch := first|omega|(simp only[ln];omega))) (by simp) ?_
  simp only [puts_some, updo]
  refine AOPS.all (by simp (disch := first|omega|(simp only[ln];omega)) [idf_Wd', Sp.av, Sp.cells, Sg.av, Sg.cells]; rfl) ?_
  refine hK3 _ ?_
  refine cond_ok (!decide (sgF L = 0)) (by simp (disch := first|omega|(simp only[ln];omega))) (fun h12 => ?_) (fun h12 => ?_)
  · simp [hz] at h12
  · try simp only [decide_eq_true_eq, decide_eq_false_iff_not] at h12
    refine AWP.skip ?_
    refine hK2 _ ?_
    refine AWP.seqk fun K4 hK4 => ?_
    refine AWP.region (AOPS.all (by simp (disch := first|omega|(simp only[ln];omega)) [idf_Wd', Sp.av, Sp.cells, Sg.av, Sg.cells]; rfl) ?_)
    refine hK4 _ ?_
    refine AWP.seqk fun K5 hK5 => ?_
    refine AWP.seqk fun K6 hK6 => ?_
    refine AWP.region (AOPS.all (by simp (disch := first|omega|(simp only[ln];omega)) [idf_Wd', Sp.av, Sp.cells, Sg.av, Sg.cells]; rfl) ?_)
    refine hK6 _ ?_
    refine AWP.block ?_
    
    refine AWP.loop (fun N s => ∃ i : Nat, ∃ C : List (Nat × Nat), ∃ io : Nat, N = L.length - i ∧ i ≤ L.length ∧ (C = cpL L i) ∧ (nx ≤ io) ∧ s.env 0 = .isl (L.map Sg.cells) ∧ s.env 5 = .int .i64 (i : Int) ∧ s.env 4 = .osl io 0 C.length ∧ s.heap io = some (2, C.map prC) ∧ io < s.nx ∧ s.nt = 50) (L.length) (⟨0, [], nx, by omega, by omega, rfl, by omega, by simp (disch := omega), by simp (disch := omega), by simp (disch := omega), by simp (disch := omega), by first | omega | (simp; done) | (simp; omega), rfl⟩) ?_
    rintro N ⟨e, H, mm, nt⟩ ⟨i, C, io, rfl, hi, hC, hio, g0, g5, g4, Ho, xo, rfl⟩
    simp only [] at g0 g5 g4 Ho xo
    refine AWP.seqk fun K7 hK7 => ?_
    refine AWP.seqk fun K8 hK8 => ?_
    refine AWP.region (AOPS.all (by simp (disch := first|omega|(simp only[ln];omega)) [idf_Wd', Sp.av, Sp.cells, Sg.av, Sg.cells, g0, g5, List.length_map]; rfl) ?_)
    refine hK8 _ ?_
    refine cond_ok _ (by simp (disch := first|omega|(simp only[ln];omega)); rfl) (fun h17 => ?_) (fun h17 => ?_)
    · try simp only [decide_eq_true_eq, decide_eq_false_iff_not] at h17
      have hi' : i < L.length := by omega
      have hat := gse_at hi'
      have gi := z2 _ (gse_mem hi')
      refine AWP.skip ?_
      refine hK7 _ ?_
      refine AWP.seqk fun K9 hK9 => ?_
      refine AWP.block ?_
      refine AWP.seqk fun K10 hK10 => ?_
      refine AWP.region (AOPS.all (by simp (disch := first|omega|(simp only[ln];omega)) [idf_Wd', Sp.av, Sp.cells, Sg.av, Sg.cells, g5]; rfl) ?_)
      refine hK10 _ ?_
      refine AWP.block ?_
      
      refine AWP.loop (fun N s => ∃ k : Nat, ∃ C : List (Nat × Nat), ∃ io : Nat, N = L.length - k ∧ k ≤ L.length ∧ (C = cpL L i ++ cpR L i k) ∧ (i < k) ∧ (nx ≤ io) ∧ s.env 0 = .isl (L.map Sg.cells) ∧ s.env 5 = .int .i64 (i : Int) ∧ s.env 6 = .int .i64 (k : Int) ∧ s.env 4 = .osl io 0 C.length ∧ s.heap io = some (2, C.map prC) ∧ io < s.nx ∧ s.nt = 50) (L.length - (i + 1)) (⟨(i + 1), C, io, by omega, by omega, by rw [cpR_start, List.append_nil]; exact hC, by omega, hio, by simp (disch := omega) [g0, g5, g4, Ho], by simp (disch := omega) [g0, g5, g4, Ho], by simp (disch := omega) [g0, g5, g4, Ho], by simp (disch := omega) [g0, g5, g4, Ho], by simp (disch := omega) [g0, g5, g4, Ho], by first | omega | (simp; done) | (simp; omega), rfl⟩) ?_
      clear g0 g5 g4 Ho xo hC
      rintro N ⟨e, H, mm, nt⟩ ⟨k, C, io, rfl, hk, hC, hik, hio, g0, g5, g6, g4, Ho, xo, rfl⟩
      simp only [] at g0 g5 g6 g4 Ho xo
      refine AWP.seqk fun K11 hK11 => ?_
      refine AWP.seqk fun K12 hK12 => ?_
      refine AWP.region (AOPS.all (by simp (disch := first|omega|(simp only[ln];omega)) [idf_Wd', Sp.av, Sp.cells, Sg.av, Sg.cells, g0, g6, List.length_map]; rfl) ?_)
      refine hK12 _ ?_
      refine cond_ok _ (by simp (disch := first|omega|(simp only[ln];omega)); rfl) (fun h25 => ?_) (fun h25 => ?_)
      · try simp only [decide_eq_true_eq, decide_eq_false_iff_not] at h25
        have hk' : k < L.length := by omega
        have hatk := gse_at hk'
        have gk := z2 _ (gse_mem hk')
        have hmt := l4Meet_fc (gse L i) (gse L k) gi gk
        obtain ⟨b1, b2, b3, c1, c2, c3, s1, s2, s3, t1, t2, t3, h4V, ones⟩ := l4V_k gi gk
        obtain ⟨o1, o2, o3, o4, o5, o6⟩ := ones
        rw [h4V] at hmt
        obtain ⟨M, hM⟩ : ∃ M, meetI (gse L i) (gse L k) = M := ⟨_, rfl⟩
        rw [hM] at hmt
        refine AWP.skip ?_
        refine hK11 _ ?_
        refine AWP.seqk fun K13 hK13 => ?_
        refine AWP.block ?_
        refine AWP.seqk fun K14 hK14 => ?_
        refine AWP.old fun hold => ?_
        refine AWP.draw 15 Try.checked.mixed (by kernel_rfl) (by simp) ?_
        simp only [List.take_succ_cons, List.take_zero, List.drop_succ_cons, List.drop_zero]
        refine DP.runFk 8 (by simp (disch := first|omega|(simp only[ln];omega)) [runDf.eq_def, runF1, runF2, stepF.eq_def, updo.eq_def, hupo.eq_def, opSto1.eq_def, List.take_succ_cons, List.take_zero, if_pos, idf_Wd', Sp.av, Sp.cells, Sg.av, Sg.cells, g0, g5, g6, hat, hatk, o1, o2, o3, o4, o5, o6, List.length_map]; rfl) fun fs15 hfs15 => ?_
        replace hfs15 : fs15.length = 8 := hfs15.trans rfl
        simp only [List.drop_succ_cons, List.drop_zero]
        refine DP.fcall (hmt) rfl rfl rfl hb95 (by simp (disch := first|omega|(simp only[ln];omega)) [idf_Wd', g0, g5, g6, hat, hatk, o1, o2, o3, o4, o5, o6, List.length_map, Sp.av, Sp.cells, Sg.av, Sg.cells]) (by simp (disch := first|omega|(simp only[ln];omega)) [g0, g5, g6, hat, hatk, o1, o2, o3, o4, o5, o6, List.length_map]) (by simp) ?_
        simp only [updo]
        refine DP.runFk 3 (by simp (disch := first|omega|(simp only[ln];omega)) [runDf.eq_def, runF1, runF2, stepF.eq_def, updo.eq_def, hupo.eq_def, opSto1.eq_def, List.take_succ_cons, List.take_zero, if_pos, idf_Wd', Sp.av, Sp.cells, Sg.av, Sg.cells, g0, g5, g6, hat, hatk, o1, o2, o3, o4, o5, o6, List.length_map]; rfl) fun fs16 hfs16 => ?_
        replace hfs16 : fs16.length = 3 := hfs16.trans rfl
        simp only [List.drop_succ_cons, List.drop_zero]
        refine DP.runF1q (by simp (disch := first|omega|(simp only[ln];omega)) [runDf.eq_def, runF1, runF2, stepF.eq_def, updo.eq_def, hupo.eq_def, opSto1.eq_def, if_pos, idf_Wd', Sp.av, Sp.cells, Sg.av, Sg.cells, g0, g5, g6, hat, hatk, o1, o2, o3, o4, o5, o6, List.length_map]; rfl) fun fq17 hfq17 => ?_
        simp [qids, asksB, Op.operands, topId] at hfq17
        simp only [updo]
        refine DP.runFk 2 (by simp (disch := first|omega|(simp only[ln];omega)) [runDf.eq_def, runF1, runF2, stepF.eq_def, updo.eq_def, hupo.eq_def, opSto1.eq_def, List.take_succ_cons, List.take_zero, if_pos, idf_Wd', Sp.av, Sp.cells, Sg.av, Sg.cells, g0, g5, g6, hat, hatk, o1, o2, o3, o4, o5, o6, List.length_map]; rfl) fun fs18 hfs18 => ?_
        replace hfs18 : fs18.length = 2 := hfs18.trans rfl
        simp only [List.drop_succ_cons, List.drop_zero]
        refine DQ.asg1 _ rfl rfl ?_
        simp only [updo]
        refine DQ.sto1 (m := 15) [12] _ (by simp (disch := first|omega|(simp only[ln];omega)) [runDf.eq_def, runF1, runF2, stepF.eq_def, updo.eq_def, hupo.eq_def, opSto1.eq_def, if_pos, idf_Wd', Sp.av, Sp.cells, Sg.av, Sg.cells, g0, g5, g6, hat, hatk, o1, o2, o3, o4, o5, o6, List.length_map]; rfl) rfl (by simp only [List.length_append, List.length_cons, List.length_nil, hfs15, hfs16, hfs18]; omega) (by kernel_rfl) (by intro k f hk hex; simp only [List.mem_cons, List.not_mem_nil, or_false] at hex; rcases hex with rfl <;> (simp [List.getElem?_append, hfs15, hfs16, hfs18] at hk; subst hk; refine ⟨?_, by first | omega | (simp; done) | (simp; omega)⟩; simp [qids, asksB, Op.operands, Call.operands, topId, numS, numI, Wd, hfq17, g0, g5, g6]; try omega)) ?_
        try simp only []
        refine DQ.sto1 (m := 15) [] _ (by simp (disch := first|omega|(simp only[ln];omega)) [runDf.eq_def, runF1, runF2, stepF.eq_def, updo.eq_def, hupo.eq_def, opSto1.eq_def, if_pos, idf_Wd', Sp.av, Sp.cells, Sg.av, Sg.cells, g0, g5, g6, hat, hatk, o1, o2, o3, o4, o5, o6, List.length_map]; rfl) rfl (by simp only [List.length_append, List.length_cons, List.length_nil, hfs15, hfs16, hfs18]; omega) (by kernel_rfl) (by intro k f hk hex; simp only [List.not_mem_nil] at hex) ?_
        try simp only []
        refine hK14 _ ?_
        refine AWP.seqk fun K19 hK19 => ?_
        refine AWP.region (AOPS.all (by simp (disch := first|omega|(simp only[ln];omega)) [idf_Wd', Sp.av, Sp.cells, Sg.av, Sg.cells]; rfl) ?_)
        refine hK19 _ ?_
        refine cond_ok (M.1 != 0) (by simp (disch := first|omega|(simp only[ln];omega)) [bne]) (fun h42 => ?_) (fun h42 => ?_)
        · try simp only [decide_eq_true_eq, decide_eq_false_iff_not] at h42
          have hm1 : ¬ mks L i k = 0 := by unfold mks; rw [hM]; simpa using h42
          have hcl := cp_len z1 (show i ≤ L.length by omega) (show k ≤ L.length by omega)
          rw [← hC] at hcl
          have hap : (C ++ [(i, k)]).map prC = C.map prC ++ [[.int .i64 (i : Int), .int .i64 (k : Int)]] := by rw [List.map_append]; rfl
          have htk : List.take C.length (List.map prC C) = List.map prC C := List.take_of_length_le (by simp)
          have hc1 : (C.length + 1) * 16 ≤ 140737488355328 := by omega
          have hc2 : C.length ≤ 9223372036854775806 := by omega
          refine AWP.region ?_
          refine AOPS.runk 5 (by simp (disch := first|omega|(simp only[ln];omega)) [List.take_succ_cons, List.take_zero, idf_Wd', Sp.av, Sp.cells, Sg.av, Sg.cells, g4, g5, g6, Ho, hc1, hc2, List.length_map]; rfl) ?_
          simp only [List.drop_succ_cons, List.drop_zero]
          refine AOPS.opapp (by simp (disch := first|omega|(simp only[ln];omega)) [opApp.eq_def, aSrc_isl, aSrc_osl, aSrc_nsl, aSrc_int, wd_app, wd_app2, if_pos, wd_append, wd_take, wd_drop, List.nil_append, idf_Wd', Sp.av, Sp.cells, Sg.av, Sg.cells, g4, g5, g6, Ho, hc1, hc2, List.length_map, src_Wd' (P := Try.prog) elT84]; first | rfl | exact ⟨rfl, rfl⟩ | exact ⟨rfl, rfl, rfl⟩) (by simp) (by simp) ?_
          simp only [puts_some, hdrop]
          refine AOPS.all (by simp (disch := first|omega|(simp only[ln];omega)) [idf_Wd', Sp.av, Sp.cells, Sg.av, Sg.cells, g4, g5, g6, Ho, hc1, hc2, List.length_map]; rfl) ?_
          refine hK13 _ ?_
          refine AWP.region (AOPS.all (by simp (disch := first|omega|(simp only[ln];omega)) [idf_Wd', Sp.av, Sp.cells, Sg.av, Sg.cells, g6]; rfl) ?_)
          refine ⟨L.length - (k + 1), by omega, k + 1, (C ++ [(i, k)]), (mm + 18 + 1), rfl, by omega, by rw [cpR_yes hik hm1, hC, List.append_assoc], by omega, by omega, by simp (disch := omega) [g0, g5, g6, g4, Ho, hap, htk, List.length_append], by simp (disch := omega) [g0, g5, g6, g4, Ho, hap, htk, List.length_append], by simp (disch := omega) [g0, g5, g6, g4, Ho, hap, htk, List.length_append], by simp (disch := omega) [g0, g5, g6, g4, Ho, hap, htk, List.length_append], by simp (disch := omega) [g0, g5, g6, g4, Ho, hap, htk, List.length_append], by first | omega | (simp; done) | (simp; omega), rfl⟩
        · try simp only [decide_eq_true_eq, decide_eq_false_iff_not] at h42
          have hm0 : mks L i k = 0 := by unfold mks; rw [hM]; simpa using h42
          refine AWP.skip ?_
          refine hK13 _ ?_
          refine AWP.region (AOPS.all (by simp (disch := first|omega|(simp only[ln];omega)) [idf_Wd', Sp.av, Sp.cells, Sg.av, Sg.cells, g6]; rfl) ?_)
          refine ⟨L.length - (k + 1), by omega, k + 1, C, io, rfl, by omega, by rw [cpR_no hm0]; exact hC, by omega, by omega, by simp (disch := omega) [g0, g5, g6, g4, Ho], by simp (disch := omega) [g0, g5, g6, g4, Ho], by simp (disch := omega) [g0, g5, g6, g4, Ho], by simp (disch := omega) [g0, g5, g6, g4, Ho], by simp (disch := omega) [g0, g5, g6, g4, Ho], by first | omega | (simp; done) | (simp; omega), rfl⟩
      · try simp only [decide_eq_true_eq, decide_eq_false_iff_not] at h25
        have hkn : k = L.length := by omega
        have hC' : C = cpL L (i + 1) := by rw [cpL_step, hC, hkn]
        refine AWP.exit ?_
        refine hK9 _ ?_
        refine AWP.region (AOPS.all (by simp (disch := first|omega|(simp only[ln];omega)) [idf_Wd', Sp.av, Sp.cells, Sg.av, Sg.cells, g5]; rfl) ?_)
        refine ⟨L.length - (i + 1), by omega, i + 1, C, io, rfl, by omega, hC', hio, by simp (disch := omega) [g0, g5, g4, Ho], by simp (disch := omega) [g0, g5, g4, Ho], by simp (disch := omega) [g0, g5, g4, Ho], by simp (disch := omega) [g0, g5, g4, Ho], by first | omega | (simp; done) | (simp; omega), rfl⟩
    · try simp only [decide_eq_true_eq, decide_eq_false_iff_not] at h17
      have hin : i = L.length := by omega
      subst hin
      have hCF : C = cpF L := hC
      subst hCF
      refine AWP.exit ?_
      refine hK5 _ ?_
      refine AWP.seqk fun K20 hK20 => ?_
      refine AWP.region (AOPS.all (by simp (disch := first|omega|(simp only[ln];omega)) [idf_Wd', Sp.av, Sp.cells, Sg.av, Sg.cells, g4]; rfl) ?_)
      refine hK20 _ ?_
      refine AWP.ret ?_
      exact hK _ _ _ _ trivial (((Fin.mk (r := .tup [.osl io 0 (cpF L).length, .bool true]) (by simp (disch := omega) [aRes, aResL, aRes1, idf_Wd', Sp.av, Sp.cells, Sg.av, Sg.cells]; try rfl)).freeze (id := io) (z := 2) (es := (cpF L).map prC) (by simp [Ho])).cast (by have := fz_fill (id := io) prC (cpF L) rfl; simp only [fz, fzL] at this ⊢; rw [this]))

theorem crossPairs_no (L : List Sg) (hl : L.length ≤ 1099511627776) (hz : ¬ sgF L = 0) : FC Try.prog 54 [.isl (L.map Sg.cells)] (.tup [.nsl, .bool false]) := by
  refine FC.body Try.func54 rfl (by simp [idfL, idf, idfLL_iff, Sp.av, Sp.cells, Sg.av, Sg.cells]) (by simp [idfL, idf, idfLL_iff, idf_Wd', Sp.av, Sp.cells, Sg.av, Sg.cells]) 50 rfl fun nx K hK => ?_
  refine AWP.seqk fun K1 hK1 => ?_
  refine AWP.region (AOPS.all (by simp (disch := first|omega|(simp only[ln];omega)) [idf_Wd', Sp.av, Sp.cells, Sg.av, Sg.cells]; rfl) ?_)
  refine hK1 _ ?_
  refine AWP.seqk fun K2 hK2 => ?_
  refine AWP.seqk fun K3 hK3 => ?_
  refine AWP.region ?_
  refine AOPS.runk 1 (by simp (disch := first|omega|(simp only[ln];omega)) [List.take_succ_cons, List.take_zero, idf_Wd', Sp.av, Sp.cells, Sg.av, Sg.cells]; rfl) ?_
  simp only [List.drop_succ_cons, List.drop_zero]
  refine AOPS.fcall (areSegs_fc L hl) rfl rfl rfl hb97 (by simp (disch := first|omega|(simp only[ln];omega)) [idf_Wd', Sp.av, Sp.cells, Sg.av, Sg.cells]) (by simp (disch := first|omega|(simp only[ln];omega))) (by simp) ?_
  simp only [puts_some, updo]
  refine AOPS.all (by simp (disch := first|omega|(simp only[ln];omega)) [idf_Wd', Sp.av, Sp.cells, Sg.av, Sg.cells]; rfl) ?_
  refine hK3 _ ?_
  refine cond_ok (!decide (sgF L = 0)) (by simp (disch := first|omega|(simp only[ln];omega))) (fun h13 => ?_) (fun h13 => ?_)
  · try simp only [decide_eq_true_eq, decide_eq_false_iff_not] at h13
    refine AWP.seqk fun K4 hK4 => ?_
    refine AWP.region (AOPS.all (by simp (disch := first|omega|(simp only[ln];omega)) [idf_Wd', Sp.av, Sp.cells, Sg.av, Sg.cells]; rfl) ?_)
    refine hK4 _ ?_
    refine AWP.ret ?_
    exact hK _ _ _ _ trivial ((Fin.mk (by simp [aRes, aResL, aRes1, idf_Wd', Sp.av, Sp.cells, Sg.av, Sg.cells]; try rfl)))
  · simp [hz] at h13

theorem crossPairsS_no (L : List Sg) (hl : L.length ≤ 1099511627776) (hz : ¬ sgF L = 0) : FC Try.prog 53 [.isl (L.map Sg.cells)] (.tup [.nsl, .bool false]) := by
  refine FC.body Try.func53 rfl (by simp [idfL, idf, idfLL_iff, Sp.av, Sp.cells, Sg.av, Sg.cells]) (by simp [idfL, idf, idfLL_iff, idf_Wd', Sp.av, Sp.cells, Sg.av, Sg.cells]) 50 rfl fun nx K hK => ?_
  refine AWP.seqk fun K1 hK1 => ?_
  refine AWP.region (AOPS.all (by simp (disch := first|omega|(simp only[ln];omega)) [idf_Wd', Sp.av, Sp.cells, Sg.av, Sg.cells]; rfl) ?_)
  refine hK1 _ ?_
  refine AWP.seqk fun K2 hK2 => ?_
  refine AWP.seqk fun K3 hK3 => ?_
  refine AWP.region ?_
  refine AOPS.runk 1 (by simp (disch := first|omega|(simp only[ln];omega)) [List.take_succ_cons, List.take_zero, idf_Wd', Sp.av, Sp.cells, Sg.av, Sg.cells]; rfl) ?_
  simp only [List.drop_succ_cons, List.drop_zero]
  refine AOPS.fcall (l7Ok_fc L hl) rfl rfl rfl hb94 (by simp (disch := first|omega|(simp only[ln];omega)) [idf_Wd', Sp.av, Sp.cells, Sg.av, Sg.cells]) (by simp (disch := first|omega|(simp only[ln];omega))) (by simp) ?_
  simp only [puts_some, updo]
  refine AOPS.all (by simp (disch := first|omega|(simp only[ln];omega)) [idf_Wd', Sp.av, Sp.cells, Sg.av, Sg.cells]; rfl) ?_
  refine hK3 _ ?_
  refine cond_ok (!decide (sgF L = 0)) (by simp (disch := first|omega|(simp only[ln];omega))) (fun h12 => ?_) (fun h12 => ?_)
  · try simp only [decide_eq_true_eq, decide_eq_false_iff_not] at h12
    refine AWP.seqk fun K4 hK4 => ?_
    refine AWP.region (AOPS.all (by simp (disch := first|omega|(simp only[ln];omega)) [idf_Wd', Sp.av, Sp.cells, Sg.av, Sg.cells]; rfl) ?_)
    refine hK4 _ ?_
    refine AWP.ret ?_
    exact hK _ _ _ _ trivial ((Fin.mk (by simp [aRes, aResL, aRes1, idf_Wd', Sp.av, Sp.cells, Sg.av, Sg.cells]; try rfl)))
  · simp [hz] at h12

end Go.Proofs.Ytmaebeknmiomnaa

/- Walks: FnExactCrossPairs, walked. -/
namespace Go.Proofs.Ytmaebeknmiomnaa
open Go Go.RowKit
set_option linter.unusedSimpArgs false
set_option linter.unusedVariables false
set_option maxRecDepth 100000
attribute [local simp] List.getElem?_cons_zero List.getElem?_cons_succ List.getElem?_toArray runOps stepOp.eq_def agd.eq_def dstOk.eq_def opVal.eq_def opNew.eq_def opSto.eq_def ev.eq_def cv.eq_def puts_some puts_none upd_ap lst.eq_def aBin.eq_def aUn.eq_def aBi_str aBi_isl aBi_osl aBi_nsl aBi_max aBi_min aBi_max3 aConv.eq_def aLd.eq_def aLoad.eq_def aField.eq_def aFld.eq_def aIdx_isl aIdx_osl aSlc_isl aSlc_osl aSlc_str aSlc_nsl bnd.eq_def evs_nil evs_cons aBuild.eq_def aFill splice.eq_def cells_agg cells_int cells_bool cells_str cells_nil cells_nsl cells_isl cells_osl cells_ptr cells_ip cells_fn cells_Wd one_int one_bool one_str one_nil one_nsl one_isl one_osl one_ptr one_ip one_fn one_Wd aSets hupd_eq hupd_ne wrap_i64s wrap_u64s wrap_u32s wrap_u8s wd_getD wd_set wd_len wd_replicate wd_one wd_fold fz_osl hupd_same aSix.eq_def aEqS.eq_def aEqB_bool aEqB_nsl aEqB_nil
attribute [local simp] szT2 byT2 agT2 unT2 zoT2 szT3 byT3 agT3 unT3 zoT3 szT38 byT38 agT38 elT38 unT38 zoT38 szT41 byT41 agT41 elT41 unT41 zoT41 szT67 byT67 agT67 flT67 fdT67_0 fdT67_1 zoT67 szT69 byT69 agT69 flT69 fdT69_0 fdT69_1 zoT69 szT84 byT84 agT84 elT84 unT84 zoT84 szT134 byT134 agT134 flT134 fdT134_0 fdT134_1 zoT134 szT136 byT136 agT136 flT136 fdT136_0 fdT136_1 zoT136 szT167 byT167 agT167 flT167 fdT167_0 fdT167_1 zoT167

theorem sgrow_len (r : List Sg) : ∀ row ∈ r.map Sg.cells, row.length = 4 := by intro row h; obtain ⟨p, _, rfl⟩ := List.mem_map.1 h; rfl
theorem prrow_len (r : List (Nat × Nat)) : ∀ row ∈ r.map prC, row.length = 2 := by intro row h; obtain ⟨p, _, rfl⟩ := List.mem_map.1 h; rfl
theorem mkR_take2 (f : Nat → List AV) (n : Nat) : List.take n (mkR f n) = mkR f n := List.take_of_length_le (by rw [mkR_len]; omega)

set_option maxHeartbeats 1000000 in
theorem toSegS_own (l : List Sg) (hl : l.length ≤ 1048576) (nx : Nat) : ACall Try.prog 25 [.isl (l.map Sg.cells)] (fun _ => none) nx (own1 nx 4 (l.map Sg.cells) (fun id => .osl id 0 l.length)) := by
  refine ACall.body Try.func25 rfl 23 rfl fun K hK => ?_
  refine AWP.seqk fun K1 hK1 => ?_
  refine AWP.region (AOPS.all (by simp (disch := first|omega|(simp only[ln];omega)) [idf_Wd']; rfl) ?_)
  refine hK1 _ ?_
  refine AWP.seqk fun K2 hK2 => ?_
  refine AWP.region (AOPS.all (by simp (disch := first|omega|(simp only[ln];omega)) [if_pos, idf_Wd', List.length_map]; rfl) ?_)
  refine hK2 _ ?_
  refine AWP.seqk fun K3 hK3 => ?_
  refine AWP.seqk fun K4 hK4 => ?_
  refine AWP.region (AOPS.all (by simp (disch := first|omega|(simp only[ln];omega)) [idf_Wd']; rfl) ?_)
  refine hK4 _ ?_
  refine AWP.block ?_
  refine AWP.loop (fun N s => ∃ i id : Nat, N = l.length - i ∧ i ≤ l.length ∧ s.env 0 = .isl (l.map Sg.cells) ∧ s.env 3 = .osl id 0 l.length ∧ s.env 4 = .int .i64 (i : Int) ∧ s.heap id = some (4, fillR Sg.cells [.int .i64 0, .int .i64 0, .int .i64 0, .int .i64 0] l i) ∧ nx ≤ id ∧ id < s.nx ∧ s.nt = 23) (l.length) (⟨0, nx, by omega, by omega, by simp, by simp, by simp, by simp [← fillR_zero], by omega, by simp, rfl⟩) ?_
  rintro N ⟨e, H, mm, nt⟩ ⟨i, id, rfl, hi, h0, h3, h4, hH, hx1, hx2, rfl⟩
  simp only [] at h0 h3 h4 hH hx1 hx2
  refine AWP.seqk fun K5 hK5 => ?_
  refine AWP.seqk fun K6 hK6 => ?_
  refine AWP.region (AOPS.all (by simp (disch := first|omega|(simp only[ln];omega)) [idf_Wd', h0, h4, List.length_map]; rfl) ?_)
  refine hK6 _ ?_
  refine cond_ok _ (by simp (disch := first|omega|(simp only[ln];omega)); rfl) (fun h11 => ?_) (fun h11 => ?_)
  · try simp only [decide_eq_true_eq, decide_eq_false_iff_not] at h11
    have hi' : i < l.length := by omega
    obtain ⟨p, hpi⟩ : ∃ p, l[i]? = some p := ⟨l[i], by simp [hi']⟩
    have hpm : (l.map Sg.cells)[i]? = some p.cells := by rw [List.getElem?_map, hpi]; rfl
    have fst := fillR_set Sg.cells [.int .i64 0, .int .i64 0, .int .i64 0, .int .i64 0] l hpi
    simp only [Sg.cells] at fst
    have fl := fillR_len Sg.cells [.int .i64 0, .int .i64 0, .int .i64 0, .int .i64 0] l hi
    have fg := fillR_getE Sg.cells [.int .i64 0, .int .i64 0, .int .i64 0, .int .i64 0] l hi'
    refine AWP.skip ?_
    refine hK5 _ ?_
    refine AWP.seqk fun K7 hK7 => ?_
    refine AWP.block ?_
    refine AWP.region ?_
    refine AOPS.runk 6 (by simp (disch := first|omega|(simp only[ln];omega)) [List.take_succ_cons, List.take_zero, if_pos, idf_Wd', h0, h3, h4, hH, fl, fg, hpm, Sp.cells, Sg.cells, Sp.av, Sg.av, List.length_map]; rfl) ?_
    simp only [List.drop_succ_cons, List.drop_zero]
    refine AOPS.fcall (toSeg_fc p) rfl rfl rfl hb96 (by simp (disch := first|omega|(simp only[ln];omega)) [idf_Wd', h0, h3, h4, hH, fl, fg, hpm, Sp.cells, Sg.cells, Sp.av, Sg.av, List.length_map]) (by simp (disch := first|omega|(simp only[ln];omega)) [h0, h3, h4, hH, fl, fg, hpm, Sp.cells, Sg.cells, Sp.av, Sg.av, List.length_map]) (by simp) ?_
    simp only [puts_some, updo]
    refine AOPS.all (by simp (disch := first|omega|(simp only[ln];omega)) [if_pos, idf_Wd', h0, h3, h4, hH, fl, fg, hpm, Sp.cells, Sg.cells, Sp.av, Sg.av, List.length_map]; rfl) ?_
    refine hK7 _ ?_
    refine AWP.region (AOPS.all (by simp (disch := first|omega|(simp only[ln];omega)) [idf_Wd', h4]; rfl) ?_)
    refine ⟨l.length - (i + 1), by omega, i + 1, id, rfl, by omega, by simp [h0], by simp [h3], by simp (disch := omega) [h4], by simp [fst], hx1, by first | omega | (simp; done) | (simp; omega), rfl⟩
  · try simp only [decide_eq_true_eq, decide_eq_false_iff_not] at h11
    have hin : i = l.length := by omega
    rw [hin, fillR_all] at hH
    refine AWP.exit ?_
    refine hK3 _ ?_
    refine AWP.seqk fun K8 hK8 => ?_
    refine AWP.region (AOPS.all (by simp (disch := first|omega|(simp only[ln];omega)) [idf_Wd', h3]; rfl) ?_)
    refine hK8 _ ?_
    refine AWP.ret ?_
    exact hK _ _ _ _ _ trivial (Fin.own1 (Fin.mk (by simp (disch := omega) [aRes, aResL, aRes1, idf_Wd']; try rfl)) (id := id) (by simp [hH])) (⟨id, by first | omega | (simp; done) | (simp; omega), by first | omega | (simp; done) | (simp; omega), rfl, rfl⟩)

set_option maxHeartbeats 1000000 in
theorem markSegS_ac (n id : Nat) (es : List (List AV)) (k : Int) (HP : Heap) (nx : Nat) (hH : HP id = some (4, es)) (hn : es.length = n) (hw : ∀ row ∈ es, row.length = 4) (hk0 : 0 ≤ k) (hk1 : k ≤ 1000) (hn1 : n ≤ 1099511627776) : ACall Try.prog 56 [.osl id 0 n, .int .i64 k] HP nx (fun r H' nx' => r = .int .i64 (k + 4 * (n : Int)) ∧ H' = hupd HP id (some (4, mkR (m4 k) n)) ∧ nx' = nx) := by
  refine ACall.body Try.func56 rfl 45 rfl fun K hK => ?_
  refine AWP.seqk fun K1 hK1 => ?_
  refine AWP.region (AOPS.all (by simp (disch := first|omega|(simp only[ln];omega)) [idf_Wd', Sp.av, Sp.cells, Sg.av, Sg.cells]; rfl) ?_)
  refine hK1 _ ?_
  refine AWP.seqk fun K2 hK2 => ?_
  refine AWP.seqk fun K3 hK3 => ?_
  refine AWP.region (AOPS.all (by simp (disch := first|omega|(simp only[ln];omega)) [idf_Wd', Sp.av, Sp.cells, Sg.av, Sg.cells]; rfl) ?_)
  refine hK3 _ ?_
  refine AWP.block ?_
  
  refine AWP.loop (fun N s => ∃ i : Nat, N = n - i ∧ i ≤ n ∧ (s.heap = hupd HP id (some (4, cmR (m4 k) es i))) ∧ (s.nx = nx) ∧ s.env 0 = .osl id 0 n ∧ s.env 1 = .int .i64 (k + 4 * (i : Int)) ∧ s.env 5 = .int .i64 (i : Int) ∧ s.nt = 45) (n) (⟨0, by omega, by omega, by rw [cmR_zero]; exact (hupd_id hH).symm, rfl, by simp (disch := omega), by simp (disch := omega) <;> omega, by simp (disch := omega), rfl⟩) ?_
  rintro N ⟨e, H, mm, nt⟩ ⟨i, rfl, hi, rfl, rfl, g0, g1, g5, rfl⟩
  simp only [] at g0 g1 g5
  refine AWP.seqk fun K4 hK4 => ?_
  refine AWP.seqk fun K5 hK5 => ?_
  refine AWP.region (AOPS.all (by simp (disch := first|omega|(simp only[ln];omega)) [idf_Wd', Sp.av, Sp.cells, Sg.av, Sg.cells, g0, g5]; rfl) ?_)
  refine hK5 _ ?_
  refine cond_ok _ (by simp (disch := first|omega|(simp only[ln];omega)); rfl) (fun h9 => ?_) (fun h9 => ?_)
  · try simp only [decide_eq_true_eq, decide_eq_false_iff_not] at h9
    have hi' : i < n := by omega
    obtain ⟨row, hrow⟩ : ∃ row, es[i]? = some row := ⟨es[i], by simp⟩
    have hrl := hw row (List.mem_of_getElem? hrow)
    obtain ⟨r0, r1, r2, r3, rfl⟩ : ∃ r0 r1 r2 r3, row = [r0, r1, r2, r3] := by
      match row, hrl with
      | [a, b, c, d], _ => exact ⟨a, b, c, d, rfl⟩
    have hget : (cmR (m4 k) es i)[i]? = some [r0, r1, r2, r3] := by rw [cmR_get]; exact hrow
    have hcl : (cmR (m4 k) es i).length = n := by rw [cmR_len _ _ (by omega)]; exact hn
    have hset : (cmR (m4 k) es i).set i [.int .i64 (k + 4 * (i : Int)), .int .i64 (k + 4 * (i : Int) + 1), .int .i64 (k + 4 * (i : Int) + 1 + 1), .int .i64 (k + 4 * (i : Int) + 1 + 1 + 1)] = cmR (m4 k) es (i + 1) := cmR_set (m4 k) es (i := i) (by omega)
    generalize cmR (m4 k) es i = C at *
    have hgE : ∀ h : i < C.length, C[i] = [r0, r1, r2, r3] := fun h => by rw [List.getElem?_eq_getElem h] at hget; simpa using hget
    refine AWP.skip ?_
    refine hK4 _ ?_
    refine AWP.seqk fun K6 hK6 => ?_
    refine AWP.block ?_
    refine AWP.seqk fun K7 hK7 => ?_
    refine AWP.region (AOPS.all (by simp (disch := first|omega|(simp only[ln];omega)) [if_pos, idf_Wd', Sp.av, Sp.cells, Sg.av, Sg.cells, g0, g1, g5, hget, hcl, hgE]; rfl) ?_)
    refine hK7 _ ?_
    refine AWP.seqk fun K8 hK8 => ?_
    refine AWP.region (AOPS.all (by simp (disch := first|omega|(simp only[ln];omega)) [idf_Wd', Sp.av, Sp.cells, Sg.av, Sg.cells, g1]; rfl) ?_)
    refine hK8 _ ?_
    refine AWP.seqk fun K9 hK9 => ?_
    refine AWP.region (AOPS.all (by simp (disch := first|omega|(simp only[ln];omega)) [if_pos, idf_Wd', Sp.av, Sp.cells, Sg.av, Sg.cells, g0, g1, g5, hget, hcl, hgE]; rfl) ?_)
    refine hK9 _ ?_
    refine AWP.seqk fun K10 hK10 => ?_
    refine AWP.region (AOPS.all (by simp (disch := first|omega|(simp only[ln];omega)) [idf_Wd', Sp.av, Sp.cells, Sg.av, Sg.cells, g1]; rfl) ?_)
    refine hK10 _ ?_
    refine AWP.seqk fun K11 hK11 => ?_
    refine AWP.region (AOPS.all (by simp (disch := first|omega|(simp only[ln];omega)) [if_pos, idf_Wd', Sp.av, Sp.cells, Sg.av, Sg.cells, g0, g1, g5, hget, hcl, hgE]; rfl) ?_)
    refine hK11 _ ?_
    refine AWP.seqk fun K12 hK12 => ?_
    refine AWP.region (AOPS.all (by simp (disch := first|omega|(simp only[ln];omega)) [idf_Wd', Sp.av, Sp.cells, Sg.av, Sg.cells, g1]; rfl) ?_)
    refine hK12 _ ?_
    refine AWP.seqk fun K13 hK13 => ?_
    refine AWP.region (AOPS.all (by simp (disch := first|omega|(simp only[ln];omega)) [if_pos, idf_Wd', Sp.av, Sp.cells, Sg.av, Sg.cells, g0, g1, g5, hget, hcl, hgE]; rfl) ?_)
    refine hK13 _ ?_
    refine AWP.region (AOPS.all (by simp (disch := first|omega|(simp only[ln];omega)) [idf_Wd', Sp.av, Sp.cells, Sg.av, Sg.cells, g1]; rfl) ?_)
    refine hK6 _ ?_
    refine AWP.region (AOPS.all (by simp (disch := first|omega|(simp only[ln];omega)) [idf_Wd', Sp.av, Sp.cells, Sg.av, Sg.cells, g5]; rfl) ?_)
    refine ⟨n - (i + 1), by omega, i + 1, rfl, by omega, by simp [hupd_same, List.set_set, hset], by simp, by simp (disch := omega) [g0, g1, g5], by simp (disch := omega) [g0, g1, g5] <;> omega, by simp (disch := omega) [g0, g1, g5], rfl⟩
  · try simp only [decide_eq_true_eq, decide_eq_false_iff_not] at h9
    have hin : i = n := by omega
    subst hin
    subst hn
    refine AWP.exit ?_
    refine hK2 _ ?_
    refine AWP.seqk fun K14 hK14 => ?_
    refine AWP.region (AOPS.all (by simp (disch := first|omega|(simp only[ln];omega)) [idf_Wd', Sp.av, Sp.cells, Sg.av, Sg.cells, g1]; rfl) ?_)
    refine hK14 _ ?_
    refine AWP.ret ?_
    exact hK _ _ _ _ _ trivial (Fin.mk (by simp [aRes, aResL, aRes1, idf_Wd', Sp.av, Sp.cells, Sg.av, Sg.cells]; try rfl)) (⟨rfl, by rw [cmR_end], rfl⟩)

set_option maxHeartbeats 1000000 in
theorem markPairS_ac (n id : Nat) (es : List (List AV)) (k : Int) (HP : Heap) (nx : Nat) (hH : HP id = some (2, es)) (hn : es.length = n) (hw : ∀ row ∈ es, row.length = 2) (hk0 : 0 ≤ k) (hk1 : k ≤ 1000) (hn1 : n ≤ 1099511627776) : ACall Try.prog 57 [.osl id 0 n, .int .i64 k] HP nx (fun r H' nx' => r = .int .i64 (k + 2 * (n : Int)) ∧ H' = hupd HP id (some (2, mkR (m2 k) n)) ∧ nx' = nx) := by
  refine ACall.body Try.func57 rfl 27 rfl fun K hK => ?_
  refine AWP.seqk fun K1 hK1 => ?_
  refine AWP.region (AOPS.all (by simp (disch := first|omega|(simp only[ln];omega)) [idf_Wd', Sp.av, Sp.cells, Sg.av, Sg.cells]; rfl) ?_)
  refine hK1 _ ?_
  refine AWP.seqk fun K2 hK2 => ?_
  refine AWP.seqk fun K3 hK3 => ?_
  refine AWP.region (AOPS.all (by simp (disch := first|omega|(simp only[ln];omega)) [idf_Wd', Sp.av, Sp.cells, Sg.av, Sg.cells]; rfl) ?_)
  refine hK3 _ ?_
  refine AWP.block ?_
  
  refine AWP.loop (fun N s => ∃ i : Nat, N = n - i ∧ i ≤ n ∧ (s.heap = hupd HP id (some (2, cmR (m2 k) es i))) ∧ (s.nx = nx) ∧ s.env 0 = .osl id 0 n ∧ s.env 1 = .int .i64 (k + 2 * (i : Int)) ∧ s.env 5 = .int .i64 (i : Int) ∧ s.nt = 27) (n) (⟨0, by omega, by omega, by rw [cmR_zero]; exact (hupd_id hH).symm, rfl, by simp (disch := omega), by simp (disch := omega) <;> omega, by simp (disch := omega), rfl⟩) ?_
  rintro N ⟨e, H, mm, nt⟩ ⟨i, rfl, hi, rfl, rfl, g0, g1, g5, rfl⟩
  simp only [] at g0 g1 g5
  refine AWP.seqk fun K4 hK4 => ?_
  refine AWP.seqk fun K5 hK5 => ?_
  refine AWP.region (AOPS.all (by simp (disch := first|omega|(simp only[ln];omega)) [idf_Wd', Sp.av, Sp.cells, Sg.av, Sg.cells, g0, g5]; rfl) ?_)
  refine hK5 _ ?_
  refine cond_ok _ (by simp (disch := first|omega|(simp only[ln];omega)); rfl) (fun h9 => ?_) (fun h9 => ?_)
  · try simp only [decide_eq_true_eq, decide_eq_false_iff_not] at h9
    have hi' : i < n := by omega
    obtain ⟨row, hrow⟩ : ∃ row, es[i]? = some row := ⟨es[i], by simp⟩
    have hrl := hw row (List.mem_of_getElem? hrow)
    obtain ⟨r0, r1, rfl⟩ : ∃ r0 r1, row = [r0, r1] := by
      match row, hrl with
      | [a, b], _ => exact ⟨a, b, rfl⟩
    have hget : (cmR (m2 k) es i)[i]? = some [r0, r1] := by rw [cmR_get]; exact hrow
    have hcl : (cmR (m2 k) es i).length = n := by rw [cmR_len _ _ (by omega)]; exact hn
    have hset : (cmR (m2 k) es i).set i [.int .i64 (k + 2 * (i : Int)), .int .i64 (k + 2 * (i : Int) + 1)] = cmR (m2 k) es (i + 1) := cmR_set (m2 k) es (i := i) (by omega)
    generalize cmR (m2 k) es i = C at *
    have hgE : ∀ h : i < C.length, C[i] = [r0, r1] := fun h => by rw [List.getElem?_eq_getElem h] at hget; simpa using hget
    refine AWP.skip ?_
    refine hK4 _ ?_
    refine AWP.seqk fun K6 hK6 => ?_
    refine AWP.block ?_
    refine AWP.seqk fun K7 hK7 => ?_
    refine AWP.region (AOPS.all (by simp (disch := first|omega|(simp only[ln];omega)) [if_pos, idf_Wd', Sp.av, Sp.cells, Sg.av, Sg.cells, g0, g1, g5, hget, hcl, hgE]; rfl) ?_)
    refine hK7 _ ?_
    refine AWP.seqk fun K8 hK8 => ?_
    refine AWP.region (AOPS.all (by simp (disch := first|omega|(simp only[ln];omega)) [idf_Wd', Sp.av, Sp.cells, Sg.av, Sg.cells, g1]; rfl) ?_)
    refine hK8 _ ?_
    refine AWP.seqk fun K9 hK9 => ?_
    refine AWP.region (AOPS.all (by simp (disch := first|omega|(simp only[ln];omega)) [if_pos, idf_Wd', Sp.av, Sp.cells, Sg.av, Sg.cells, g0, g1, g5, hget, hcl, hgE]; rfl) ?_)
    refine hK9 _ ?_
    refine AWP.region (AOPS.all (by simp (disch := first|omega|(simp only[ln];omega)) [idf_Wd', Sp.av, Sp.cells, Sg.av, Sg.cells, g1]; rfl) ?_)
    refine hK6 _ ?_
    refine AWP.region (AOPS.all (by simp (disch := first|omega|(simp only[ln];omega)) [idf_Wd', Sp.av, Sp.cells, Sg.av, Sg.cells, g5]; rfl) ?_)
    refine ⟨n - (i + 1), by omega, i + 1, rfl, by omega, by simp [hupd_same, List.set_set, hset], by simp, by simp (disch := omega) [g0, g1, g5], by simp (disch := omega) [g0, g1, g5] <;> omega, by simp (disch := omega) [g0, g1, g5], rfl⟩
  · try simp only [decide_eq_true_eq, decide_eq_false_iff_not] at h9
    have hin : i = n := by omega
    subst hin
    subst hn
    refine AWP.exit ?_
    refine hK2 _ ?_
    refine AWP.seqk fun K10 hK10 => ?_
    refine AWP.region (AOPS.all (by simp (disch := first|omega|(simp only[ln];omega)) [idf_Wd', Sp.av, Sp.cells, Sg.av, Sg.cells, g1]; rfl) ?_)
    refine hK10 _ ?_
    refine AWP.ret ?_
    exact hK _ _ _ _ _ trivial (Fin.mk (by simp [aRes, aResL, aRes1, idf_Wd', Sp.av, Sp.cells, Sg.av, Sg.cells]; try rfl)) (⟨rfl, by rw [cmR_end], rfl⟩)

set_option maxHeartbeats 1000000 in
theorem heldPairS_fc (n : Nat) (k : Int) (hk0 : 0 ≤ k) (hk1 : k ≤ 1000) (hn1 : n ≤ 1099511627776) : FC Try.prog 58 [.isl (mkR (m2 k) n), .int .i64 k] (.int .i64 (k + 2 * (n : Int))) := by
  refine FC.body Try.func58 rfl (by simp [idfL, idf, idfLL_iff, mkR, m2]) (by simp [idfL, idf, idfLL_iff, idf_Wd', Sp.av, Sp.cells, Sg.av, Sg.cells]) 31 rfl fun nx K hK => ?_
  refine AWP.seqk fun K1 hK1 => ?_
  refine AWP.region (AOPS.all (by simp (disch := first|omega|(simp only[ln];omega)) [idf_Wd', Sp.av, Sp.cells, Sg.av, Sg.cells]; rfl) ?_)
  refine hK1 _ ?_
  refine AWP.seqk fun K2 hK2 => ?_
  refine AWP.seqk fun K3 hK3 => ?_
  refine AWP.region (AOPS.all (by simp (disch := first|omega|(simp only[ln];omega)) [idf_Wd', Sp.av, Sp.cells, Sg.av, Sg.cells]; rfl) ?_)
  refine hK3 _ ?_
  refine AWP.block ?_
  
  refine AWP.loop (fun N s => ∃ i : Nat, N = n - i ∧ i ≤ n ∧ s.env 0 = .isl (mkR (m2 k) n) ∧ s.env 1 = .int .i64 (k + 2 * (i : Int)) ∧ s.env 5 = .int .i64 (i : Int) ∧ s.nt = 31) (n) (⟨0, by omega, by omega, by simp (disch := omega), by simp (disch := omega) <;> omega, by simp (disch := omega), rfl⟩) ?_
  rintro N ⟨e, H, mm, nt⟩ ⟨i, rfl, hi, g0, g1, g5, rfl⟩
  simp only [] at g0 g1 g5
  refine AWP.seqk fun K4 hK4 => ?_
  refine AWP.seqk fun K5 hK5 => ?_
  refine AWP.region (AOPS.all (by simp (disch := first|omega|(simp only[ln];omega)) [idf_Wd', Sp.av, Sp.cells, Sg.av, Sg.cells, g0, g5, mkR_len]; rfl) ?_)
  refine hK5 _ ?_
  refine cond_ok _ (by simp (disch := first|omega|(simp only[ln];omega)); rfl) (fun h9 => ?_) (fun h9 => ?_)
  · try simp only [decide_eq_true_eq, decide_eq_false_iff_not] at h9
    have hi' : i < n := by omega
    have hat : (mkR (m2 k) n)[i]? = some [.int .i64 (k + 2 * (i : Int)), .int .i64 (k + 2 * (i : Int) + 1)] := mkR_get (m2 k) hi'
    refine AWP.skip ?_
    refine hK4 _ ?_
    refine AWP.seqk fun K6 hK6 => ?_
    refine AWP.block ?_
    refine AWP.seqk fun K7 hK7 => ?_
    refine AWP.seqk fun K8 hK8 => ?_
    refine AWP.region (AOPS.all (by simp (disch := first|omega|(simp only[ln];omega)) [if_pos, idf_Wd', Sp.av, Sp.cells, Sg.av, Sg.cells, g0, g1, g5, hat, mkR_len]; rfl) ?_)
    refine hK8 _ ?_
    refine cond_ok _ (by simp (disch := first|omega|(simp only[ln];omega)); rfl) (fun h18 => ?_) (fun h18 => ?_)
    · simp at h18
    · try simp only [decide_eq_true_eq, decide_eq_false_iff_not] at h18
      refine AWP.skip ?_
      refine hK7 _ ?_
      refine AWP.seqk fun K9 hK9 => ?_
      refine AWP.region (AOPS.all (by simp (disch := first|omega|(simp only[ln];omega)) [idf_Wd', Sp.av, Sp.cells, Sg.av, Sg.cells, g1]; rfl) ?_)
      refine hK9 _ ?_
      refine AWP.seqk fun K10 hK10 => ?_
      refine AWP.seqk fun K11 hK11 => ?_
      refine AWP.region (AOPS.all (by simp (disch := first|omega|(simp only[ln];omega)) [if_pos, idf_Wd', Sp.av, Sp.cells, Sg.av, Sg.cells, g0, g5, hat, mkR_len]; rfl) ?_)
      refine hK11 _ ?_
      refine cond_ok _ (by simp (disch := first|omega|(simp only[ln];omega)); rfl) (fun h27 => ?_) (fun h27 => ?_)
      · simp at h27
      · try simp only [decide_eq_true_eq, decide_eq_false_iff_not] at h27
        refine AWP.skip ?_
        refine hK10 _ ?_
        refine AWP.region (AOPS.all (by simp (disch := first|omega|(simp only[ln];omega)) [idf_Wd', Sp.av, Sp.cells, Sg.av, Sg.cells]; rfl) ?_)
        refine hK6 _ ?_
        refine AWP.region (AOPS.all (by simp (disch := first|omega|(simp only[ln];omega)) [idf_Wd', Sp.av, Sp.cells, Sg.av, Sg.cells, g5]; rfl) ?_)
        refine ⟨n - (i + 1), by omega, i + 1, rfl, by omega, by simp (disch := omega) [g0, g1, g5], by simp (disch := omega) [g0, g1, g5] <;> omega, by simp (disch := omega) [g0, g1, g5], rfl⟩
  · try simp only [decide_eq_true_eq, decide_eq_false_iff_not] at h9
    have hin : i = n := by omega
    subst hin
    refine AWP.exit ?_
    refine hK2 _ ?_
    refine AWP.seqk fun K12 hK12 => ?_
    refine AWP.region (AOPS.all (by simp (disch := first|omega|(simp only[ln];omega)) [idf_Wd', Sp.av, Sp.cells, Sg.av, Sg.cells, g1]; rfl) ?_)
    refine hK12 _ ?_
    refine AWP.ret ?_
    exact hK _ _ _ _ trivial ((Fin.mk (by simp [aRes, aResL, aRes1, idf_Wd', Sp.av, Sp.cells, Sg.av, Sg.cells]; try rfl)))

theorem markPairS_nil (k : Int) (hk0 : 0 ≤ k) (hk1 : k ≤ 1000) : FC Try.prog 57 [.isl [], .int .i64 k] (.int .i64 k) := by
  refine FC.body Try.func57 rfl (by simp [idfL, idf, idfLL_iff, idf_Wd', Sp.av, Sp.cells, Sg.av, Sg.cells]) (by simp [idfL, idf, idfLL_iff, idf_Wd', Sp.av, Sp.cells, Sg.av, Sg.cells]) 27 rfl fun nx K hK => ?_
  refine AWP.seqk fun K1 hK1 => ?_
  refine AWP.region (AOPS.all (by simp (disch := first|omega|(simp only[ln];omega)) [idf_Wd', Sp.av, Sp.cells, Sg.av, Sg.cells]; rfl) ?_)
  refine hK1 _ ?_
  refine AWP.seqk fun K2 hK2 => ?_
  refine AWP.seqk fun K3 hK3 => ?_
  refine AWP.region (AOPS.all (by simp (disch := first|omega|(simp only[ln];omega)) [idf_Wd', Sp.av, Sp.cells, Sg.av, Sg.cells]; rfl) ?_)
  refine hK3 _ ?_
  refine AWP.block ?_
  
  refine AWP.loop (fun N s => ∃ i : Nat, N = 0 - i ∧ i ≤ 0 ∧ s.env 0 = .isl [] ∧ s.env 1 = .int .i64 k ∧ s.env 5 = .int .i64 (i : Int) ∧ s.nt = 27) (0) (⟨0, by omega, by omega, by simp (disch := omega), by simp (disch := omega), by simp (disch := omega), rfl⟩) ?_
  rintro N ⟨e, H, mm, nt⟩ ⟨i, rfl, hi, g0, g1, g5, rfl⟩
  simp only [] at g0 g1 g5
  refine AWP.seqk fun K4 hK4 => ?_
  refine AWP.seqk fun K5 hK5 => ?_
  refine AWP.region (AOPS.all (by simp (disch := first|omega|(simp only[ln];omega)) [idf_Wd', Sp.av, Sp.cells, Sg.av, Sg.cells, g0, g5]; rfl) ?_)
  refine hK5 _ ?_
  refine cond_ok _ (by simp (disch := first|omega|(simp only[ln];omega)); rfl) (fun h9 => ?_) (fun h9 => ?_)
  · first | omega | (simp at h9; done) | (simp at h9; omega)
  · try simp only [decide_eq_true_eq, decide_eq_false_iff_not] at h9
    refine AWP.exit ?_
    refine hK2 _ ?_
    refine AWP.seqk fun K6 hK6 => ?_
    refine AWP.region (AOPS.all (by simp (disch := first|omega|(simp only[ln];omega)) [idf_Wd', Sp.av, Sp.cells, Sg.av, Sg.cells, g1]; rfl) ?_)
    refine hK6 _ ?_
    refine AWP.ret ?_
    exact hK _ _ _ _ trivial ((Fin.mk (by simp [aRes, aResL, aRes1, idf_Wd', Sp.av, Sp.cells, Sg.av, Sg.cells]; try rfl)))

theorem heldPairS_nil (k : Int) (hk0 : 0 ≤ k) (hk1 : k ≤ 1000) : FC Try.prog 58 [.isl [], .int .i64 k] (.int .i64 k) := by
  refine FC.body Try.func58 rfl (by simp [idfL, idf, idfLL_iff, idf_Wd', Sp.av, Sp.cells, Sg.av, Sg.cells]) (by simp [idfL, idf, idfLL_iff, idf_Wd', Sp.av, Sp.cells, Sg.av, Sg.cells]) 31 rfl fun nx K hK => ?_
  refine AWP.seqk fun K1 hK1 => ?_
  refine AWP.region (AOPS.all (by simp (disch := first|omega|(simp only[ln];omega)) [idf_Wd', Sp.av, Sp.cells, Sg.av, Sg.cells]; rfl) ?_)
  refine hK1 _ ?_
  refine AWP.seqk fun K2 hK2 => ?_
  refine AWP.seqk fun K3 hK3 => ?_
  refine AWP.region (AOPS.all (by simp (disch := first|omega|(simp only[ln];omega)) [idf_Wd', Sp.av, Sp.cells, Sg.av, Sg.cells]; rfl) ?_)
  refine hK3 _ ?_
  refine AWP.block ?_
  
  refine AWP.loop (fun N s => ∃ i : Nat, N = 0 - i ∧ i ≤ 0 ∧ s.env 0 = .isl [] ∧ s.env 1 = .int .i64 k ∧ s.env 5 = .int .i64 (i : Int) ∧ s.nt = 31) (0) (⟨0, by omega, by omega, by simp (disch := omega), by simp (disch := omega), by simp (disch := omega), rfl⟩) ?_
  rintro N ⟨e, H, mm, nt⟩ ⟨i, rfl, hi, g0, g1, g5, rfl⟩
  simp only [] at g0 g1 g5
  refine AWP.seqk fun K4 hK4 => ?_
  refine AWP.seqk fun K5 hK5 => ?_
  refine AWP.region (AOPS.all (by simp (disch := first|omega|(simp only[ln];omega)) [idf_Wd', Sp.av, Sp.cells, Sg.av, Sg.cells, g0, g5]; rfl) ?_)
  refine hK5 _ ?_
  refine cond_ok _ (by simp (disch := first|omega|(simp only[ln];omega)); rfl) (fun h9 => ?_) (fun h9 => ?_)
  · first | omega | (simp at h9; done) | (simp at h9; omega)
  · try simp only [decide_eq_true_eq, decide_eq_false_iff_not] at h9
    refine AWP.exit ?_
    refine hK2 _ ?_
    refine AWP.seqk fun K6 hK6 => ?_
    refine AWP.region (AOPS.all (by simp (disch := first|omega|(simp only[ln];omega)) [idf_Wd', Sp.av, Sp.cells, Sg.av, Sg.cells, g1]; rfl) ?_)
    refine hK6 _ ?_
    refine AWP.ret ?_
    exact hK _ _ _ _ trivial ((Fin.mk (by simp [aRes, aResL, aRes1, idf_Wd', Sp.av, Sp.cells, Sg.av, Sg.cells]; try rfl)))

theorem eqPair_fc (p : Nat × Nat) : FC Try.prog 137 [.agg [.int .i64 (p.1 : Int), .int .i64 (p.2 : Int)], .agg [.int .i64 (p.1 : Int), .int .i64 (p.2 : Int)]] (.bool true) := by
  refine FC.body Try.func137 rfl (by simp [idfL, idf, idfLL_iff, idf_Wd', Sp.av, Sp.cells, Sg.av, Sg.cells]) (by simp [idfL, idf, idfLL_iff, idf_Wd', Sp.av, Sp.cells, Sg.av, Sg.cells]) 15 rfl fun nx K hK => ?_
  refine AWP.seqk fun K1 hK1 => ?_
  refine AWP.region (AOPS.all (by simp (disch := first|omega|(simp only[ln];omega)) [idf_Wd', Sp.av, Sp.cells, Sg.av, Sg.cells]; rfl) ?_)
  refine hK1 _ ?_
  refine AWP.seqk fun K2 hK2 => ?_
  refine AWP.seqk fun K3 hK3 => ?_
  refine AWP.region (AOPS.all (by simp (disch := first|omega|(simp only[ln];omega)) [idf_Wd', Sp.av, Sp.cells, Sg.av, Sg.cells]; rfl) ?_)
  refine hK3 _ ?_
  refine cond_ok _ (by simp (disch := first|omega|(simp only[ln];omega)); rfl) (fun h9 => ?_) (fun h9 => ?_)
  · simp at h9
  · try simp only [decide_eq_true_eq, decide_eq_false_iff_not] at h9
    refine AWP.skip ?_
    refine hK2 _ ?_
    refine AWP.seqk fun K4 hK4 => ?_
    refine AWP.seqk fun K5 hK5 => ?_
    refine AWP.region (AOPS.all (by simp (disch := first|omega|(simp only[ln];omega)) [idf_Wd', Sp.av, Sp.cells, Sg.av, Sg.cells]; rfl) ?_)
    refine hK5 _ ?_
    refine cond_ok _ (by simp (disch := first|omega|(simp only[ln];omega)); rfl) (fun h14 => ?_) (fun h14 => ?_)
    · simp at h14
    · try simp only [decide_eq_true_eq, decide_eq_false_iff_not] at h14
      refine AWP.skip ?_
      refine hK4 _ ?_
      refine AWP.seqk fun K6 hK6 => ?_
      refine AWP.region (AOPS.all (by simp (disch := first|omega|(simp only[ln];omega)) [idf_Wd', Sp.av, Sp.cells, Sg.av, Sg.cells]; rfl) ?_)
      refine hK6 _ ?_
      refine AWP.ret ?_
      exact hK _ _ _ _ trivial ((Fin.mk (by simp [aRes, aResL, aRes1, idf_Wd', Sp.av, Sp.cells, Sg.av, Sg.cells]; try rfl)))

set_option maxHeartbeats 1000000 in
theorem eqPairS_fc (l : List (Nat × Nat)) (hl : l.length ≤ 9223372036854775807) : FC Try.prog 55 [.isl (l.map prC), .isl (l.map prC)] (.bool true) := by
  refine FC.body Try.func55 rfl (by refine ⟨(idfLL_iff _).2 fun l h => by obtain ⟨p, _, rfl⟩ := List.mem_map.1 h; simp [prC, idfL, idf], (idfLL_iff _).2 fun l h => by obtain ⟨p, _, rfl⟩ := List.mem_map.1 h; simp [prC, idfL, idf], trivial⟩) (by simp [idfL, idf, idfLL_iff, idf_Wd', Sp.av, Sp.cells, Sg.av, Sg.cells]) 27 rfl fun nx K hK => ?_
  refine AWP.seqk fun K1 hK1 => ?_
  refine AWP.region (AOPS.all (by simp (disch := first|omega|(simp only[ln];omega)) [idf_Wd', Sp.av, Sp.cells, Sg.av, Sg.cells]; rfl) ?_)
  refine hK1 _ ?_
  refine AWP.seqk fun K2 hK2 => ?_
  refine AWP.seqk fun K3 hK3 => ?_
  refine AWP.region (AOPS.all (by simp (disch := first|omega|(simp only[ln];omega)) [idf_Wd', Sp.av, Sp.cells, Sg.av, Sg.cells, List.length_map]; rfl) ?_)
  refine hK3 _ ?_
  refine cond_ok _ (by simp (disch := first|omega|(simp only[ln];omega)); rfl) (fun h10 => ?_) (fun h10 => ?_)
  · simp at h10
  · try simp only [decide_eq_true_eq, decide_eq_false_iff_not] at h10
    refine AWP.skip ?_
    refine hK2 _ ?_
    refine AWP.seqk fun K4 hK4 => ?_
    refine AWP.seqk fun K5 hK5 => ?_
    refine AWP.region (AOPS.all (by simp (disch := first|omega|(simp only[ln];omega)) [idf_Wd', Sp.av, Sp.cells, Sg.av, Sg.cells]; rfl) ?_)
    refine hK5 _ ?_
    refine AWP.block ?_
    
    refine AWP.loop (fun N s => ∃ i : Nat, N = l.length - i ∧ i ≤ l.length ∧ s.env 0 = .isl (l.map prC) ∧ s.env 1 = .isl (l.map prC) ∧ s.env 5 = .int .i64 (i : Int) ∧ s.nt = 27) (l.length) (⟨0, by omega, by omega, by simp (disch := omega), by simp (disch := omega), by simp (disch := omega), rfl⟩) ?_
    rintro N ⟨e, H, mm, nt⟩ ⟨i, rfl, hi, g0, g1, g5, rfl⟩
    simp only [] at g0 g1 g5
    refine AWP.seqk fun K6 hK6 => ?_
    refine AWP.seqk fun K7 hK7 => ?_
    refine AWP.region (AOPS.all (by simp (disch := first|omega|(simp only[ln];omega)) [idf_Wd', Sp.av, Sp.cells, Sg.av, Sg.cells, g0, g5, List.length_map]; rfl) ?_)
    refine hK7 _ ?_
    refine cond_ok _ (by simp (disch := first|omega|(simp only[ln];omega)); rfl) (fun h14 => ?_) (fun h14 => ?_)
    · try simp only [decide_eq_true_eq, decide_eq_false_iff_not] at h14
      have hi' : i < l.length := by omega
      obtain ⟨p, hpi⟩ : ∃ p, l[i]? = some p := ⟨l[i], by simp [hi']⟩
      have hpm : (l.map prC)[i]? = some [.int .i64 (p.1 : Int), .int .i64 (p.2 : Int)] := by rw [List.getElem?_map, hpi]; rfl
      refine AWP.skip ?_
      refine hK6 _ ?_
      refine AWP.seqk fun K8 hK8 => ?_
      refine AWP.block ?_
      refine AWP.seqk fun K9 hK9 => ?_
      refine AWP.draw 10 Try.checked.mixed (by kernel_rfl) (by simp) ?_
      simp only [List.take_succ_cons, List.take_zero, List.drop_succ_cons, List.drop_zero]
      refine DP.runFk 8 (by simp (disch := first|omega|(simp only[ln];omega)) [runDf.eq_def, runF1, runF2, stepF.eq_def, updo.eq_def, hupo.eq_def, opSto1.eq_def, List.take_succ_cons, List.take_zero, if_pos, idf_Wd', Sp.av, Sp.cells, Sg.av, Sg.cells, g0, g1, g5, hpm, List.length_map]; rfl) fun fs10 hfs10 => ?_
      replace hfs10 : fs10.length = 8 := hfs10.trans rfl
      simp only [List.drop_succ_cons, List.drop_zero]
      refine DP.fcall (eqPair_fc p) rfl rfl rfl hb137 (by simp (disch := first|omega|(simp only[ln];omega)) [idf_Wd', g0, g1, g5, hpm, List.length_map, Sp.av, Sp.cells, Sg.av, Sg.cells]) (by simp (disch := first|omega|(simp only[ln];omega)) [g0, g1, g5, hpm, List.length_map]) (by simp) ?_
      simp only [updo]
      refine DP.runFk 1 (by simp (disch := first|omega|(simp only[ln];omega)) [runDf.eq_def, runF1, runF2, stepF.eq_def, updo.eq_def, hupo.eq_def, opSto1.eq_def, List.take_succ_cons, List.take_zero, if_pos, idf_Wd', Sp.av, Sp.cells, Sg.av, Sg.cells, g0, g1, g5, hpm, List.length_map]; rfl) fun fs11 hfs11 => ?_
      replace hfs11 : fs11.length = 1 := hfs11.trans rfl
      simp only [List.drop_succ_cons, List.drop_zero]
      refine DQ.runF (m := 10) (by simp only [List.length_append, List.length_cons, List.length_nil, hfs10, hfs11]; omega) _ _ _ (by kernel_rfl) rfl (by simp (disch := first|omega|(simp only[ln];omega)) [runDf.eq_def, runF1, runF2, stepF.eq_def, updo.eq_def, hupo.eq_def, opSto1.eq_def, if_pos, idf_Wd', Sp.av, Sp.cells, Sg.av, Sg.cells, g0, g1, g5, hpm, List.length_map]; rfl) ?_
      refine hK9 _ ?_
      refine cond_ok _ (by simp (disch := first|omega|(simp only[ln];omega)); rfl) (fun h26 => ?_) (fun h26 => ?_)
      · simp at h26
      · try simp only [decide_eq_true_eq, decide_eq_false_iff_not] at h26
        refine AWP.skip ?_
        refine hK8 _ ?_
        refine AWP.region (AOPS.all (by simp (disch := first|omega|(simp only[ln];omega)) [idf_Wd', Sp.av, Sp.cells, Sg.av, Sg.cells, g5]; rfl) ?_)
        refine ⟨l.length - (i + 1), by omega, i + 1, rfl, by omega, by simp (disch := omega) [g0, g1, g5], by simp (disch := omega) [g0, g1, g5], by simp (disch := omega) [g0, g1, g5], rfl⟩
    · try simp only [decide_eq_true_eq, decide_eq_false_iff_not] at h14
      refine AWP.exit ?_
      refine hK4 _ ?_
      refine AWP.seqk fun K12 hK12 => ?_
      refine AWP.region (AOPS.all (by simp (disch := first|omega|(simp only[ln];omega)) [idf_Wd', Sp.av, Sp.cells, Sg.av, Sg.cells]; rfl) ?_)
      refine hK12 _ ?_
      refine AWP.ret ?_
      exact hK _ _ _ _ trivial ((Fin.mk (by simp [aRes, aResL, aRes1, idf_Wd', Sp.av, Sp.cells, Sg.av, Sg.cells]; try rfl)))

theorem markPairS_nil2 (k : Int) (hk0 : 0 ≤ k) (hk1 : k ≤ 1000) : FC Try.prog 57 [.nsl, .int .i64 k] (.int .i64 k) := (markPairS_nil k hk0 hk1).args fun w β b vs h => by
  obtain ⟨v, r, e, h1, h2⟩ := h
  exact ⟨v, r, e, ⟨none, 0, 2, [], h1, by simp, rfl, by intro e vs h; simp at h⟩, h2⟩
theorem heldPairS_nil2 (k : Int) (hk0 : 0 ≤ k) (hk1 : k ≤ 1000) : FC Try.prog 58 [.nsl, .int .i64 k] (.int .i64 k) := (heldPairS_nil k hk0 hk1).args fun w β b vs h => by
  obtain ⟨v, r, e, h1, h2⟩ := h
  exact ⟨v, r, e, ⟨none, 0, 2, [], h1, by simp, rfl, by intro e vs h; simp at h⟩, h2⟩
theorem eqPairS_nil2 : FC Try.prog 55 [.nsl, .nsl] (.bool true) := (eqPairS_fc [] (by simp)).args fun w β b vs h => by
  obtain ⟨v, r, e, h1, ⟨v', r', e', h1', h2⟩⟩ := h
  exact ⟨v, r, e, ⟨none, 0, 2, [], h1, by simp, rfl, by intro e vs h; simp at h⟩, ⟨v', r', e', ⟨none, 0, 2, [], h1', by simp, rfl, by intro e vs h; simp at h⟩, h2⟩⟩

end Go.Proofs.Ytmaebeknmiomnaa

/- Walks: FnExactCrossPairs: the law. -/
namespace Go.Proofs.Ytmaebeknmiomnaa
open Go Go.RowKit
set_option linter.unusedSimpArgs false
set_option linter.unusedVariables false
set_option maxRecDepth 100000
attribute [local simp] List.getElem?_cons_zero List.getElem?_cons_succ List.getElem?_toArray runOps stepOp.eq_def agd.eq_def dstOk.eq_def opVal.eq_def opNew.eq_def opSto.eq_def ev.eq_def cv.eq_def puts_some puts_none upd_ap lst.eq_def aBin.eq_def aUn.eq_def aBi_str aBi_isl aBi_osl aBi_nsl aBi_max aBi_min aBi_max3 aConv.eq_def aLd.eq_def aLoad.eq_def aField.eq_def aFld.eq_def aIdx_isl aIdx_osl aSlc_isl aSlc_osl aSlc_str aSlc_nsl bnd.eq_def evs_nil evs_cons aBuild.eq_def aFill splice.eq_def cells_agg cells_int cells_bool cells_str cells_nil cells_nsl cells_isl cells_osl cells_ptr cells_ip cells_fn cells_Wd one_int one_bool one_str one_nil one_nsl one_isl one_osl one_ptr one_ip one_fn one_Wd aSets hupd_eq hupd_ne wrap_i64s wrap_u64s wrap_u32s wrap_u8s wd_getD wd_set wd_len wd_replicate wd_one wd_fold fz_osl hupd_same aSix.eq_def aEqS.eq_def aEqB_bool aEqB_nsl aEqB_nil
attribute [local simp] szT3 byT3 agT3 unT3 zoT3 szT4 byT4 agT4 unT4 zoT4
theorem nwr_pr (k : Nat) (l : List (Nat × Nat)) : ∀ r ∈ l.map prC, nwrL k r := by intro r h; obtain ⟨p, _, rfl⟩ := List.mem_map.1 h; simp [prC, nwrL, nwr]

set_option maxHeartbeats 4000000 in
theorem fnExactCrossPairs_yes (L : List Sg) (hl : L.length ≤ 9223372036854775807) (hz : sgF L = 0) : FC Try.prog 9 [.isl (L.map Sg.cells)] (.bool true) := by
  refine FC.body Try.func9 rfl (by simp [idfL, idf, idfLL_iff, Sp.av, Sp.cells, Sg.av, Sg.cells]) (by simp [idfL, idf, idfLL_iff, idf_Wd', Sp.av, Sp.cells, Sg.av, Sg.cells]) 96 rfl fun nx K hK => ?_
  refine AWP.seqk fun K1 hK1 => ?_
  refine AWP.region (AOPS.all (by simp (disch := first|omega|(simp only[ln];omega)) [idf_Wd', Sp.av, Sp.cells, Sg.av, Sg.cells]; rfl) ?_)
  refine hK1 _ ?_
  refine AWP.seqk fun K2 hK2 => ?_
  refine AWP.region (AOPS.all (by simp (disch := first|omega|(simp only[ln];omega)) [idf_Wd', Sp.av, Sp.cells, Sg.av, Sg.cells]; rfl) ?_)
  refine hK2 _ ?_
  refine AWP.seqk fun K3 hK3 => ?_
  refine AWP.region ?_
  refine AOPS.runk 2 (by simp (disch := first|omega|(simp only[ln];omega)) [List.take_succ_cons, List.take_zero, idf_Wd', Sp.av, Sp.cells, Sg.av, Sg.cells]; rfl) ?_
  simp only [List.drop_succ_cons, List.drop_zero]
  refine AOPS.fcall (szSegS_fc L 1048576 (by omega) (by omega) hl) rfl rfl rfl hb23 (by simp (disch := first|omega|(simp only[ln];omega)) [idf_Wd', Sp.av, Sp.cells, Sg.av, Sg.cells]) (by simp (disch := first|omega|(simp only[ln];omega))) (by simp) ?_
  simp only [puts_some, updo]
  refine AOPS.all (by simp (disch := first|omega|(simp only[ln];omega)) [idf_Wd', Sp.av, Sp.cells, Sg.av, Sg.cells]; rfl) ?_
  refine hK3 _ ?_
  refine AWP.seqk fun K4 hK4 => ?_
  refine AWP.seqk fun K5 hK5 => ?_
  refine AWP.region (AOPS.all (by simp (disch := first|omega|(simp only[ln];omega)) [idf_Wd', Sp.av, Sp.cells, Sg.av, Sg.cells]; rfl) ?_)
  refine hK5 _ ?_
  refine cond_ok (decide (szN L.length 1048576 < 0)) (by simp (disch := first|omega|(simp only[ln];omega))) (fun h18 => ?_) (fun h18 => ?_)
  · try simp only [decide_eq_true_eq, decide_eq_false_iff_not] at h18
    refine AWP.seqk fun K6 hK6 => ?_
    refine AWP.region (AOPS.all (by simp (disch := first|omega|(simp only[ln];omega)) [idf_Wd', Sp.av, Sp.cells, Sg.av, Sg.cells]; rfl) ?_)
    refine hK6 _ ?_
    refine AWP.ret ?_
    exact hK _ _ _ _ trivial ((Fin.mk (by simp [aRes, aResL, aRes1, idf_Wd', Sp.av, Sp.cells, Sg.av, Sg.cells]; try rfl)))
  · try simp only [decide_eq_true_eq, decide_eq_false_iff_not] at h18
    obtain ⟨k1, _⟩ := szN_le h18
    have k2 : L.length ≤ 1048576 := by omega
    have k3 : L.length ≤ 1099511627776 := by omega
    obtain ⟨n, hLl⟩ : ∃ n, L.length = n := ⟨_, rfl⟩
    have tkL : List.take n (L.map Sg.cells) = L.map Sg.cells := List.take_of_length_le (by rw [List.length_map]; omega)
    have own0 := fun nx => toSegS_own L k2 nx
    rw [hLl] at own0
    have neg4 : decide (1 + 4 * (n : Int) < 0) = false := by simp; omega
    obtain ⟨m, hpl⟩ : ∃ m, (cpF L).length = m := ⟨_, rfl⟩
    have tkP : List.take m ((cpF L).map prC) = (cpF L).map prC := List.take_of_length_le (by rw [List.length_map]; omega)
    have own1' := fun nx => crossPairs_own L k3 hz nx
    rw [hpl] at own1'
    have hm : m ≤ 1600 := by
      obtain ⟨z1, _⟩ := sgF_zero hz
      rw [← hpl]
      exact cpL_le z1 (Nat.le_refl _)
    have neg1 : decide (1 + 2 * (m : Int) < 0) = false := by simp; omega
    refine AWP.skip ?_
    refine hK4 _ ?_
    refine AWP.seqk fun K7 hK7 => ?_
    refine AWP.region ?_
    refine AOPS.runk 1 (by simp (disch := first|omega|(simp only[ln];omega)) [List.take_succ_cons, List.take_zero, idf_Wd', Sp.av, Sp.cells, Sg.av, Sg.cells]; rfl) ?_
    simp only [List.drop_succ_cons, List.drop_zero]
    refine AOPS.fcall (toSegS_fc L k2) rfl rfl rfl hb25 (by simp (disch := first|omega|(simp only[ln];omega)) [idf_Wd', Sp.av, Sp.cells, Sg.av, Sg.cells]) (by simp (disch := first|omega|(simp only[ln];omega))) (by simp) ?_
    simp only [puts_some, updo]
    refine AOPS.fcall (crossPairsS_fc L k3 hz) rfl rfl rfl hb53 (by simp (disch := first|omega|(simp only[ln];omega)) [idf_Wd', Sp.av, Sp.cells, Sg.av, Sg.cells]) (by simp (disch := first|omega|(simp only[ln];omega))) (by simp) ?_
    simp only [puts_some, updo]
    refine AOPS.all (by simp (disch := first|omega|(simp only[ln];omega)) [idf_Wd', Sp.av, Sp.cells, Sg.av, Sg.cells]; rfl) ?_
    refine hK7 _ ?_
    refine AWP.seqk fun K8 hK8 => ?_
    refine AWP.region ?_
    refine AOPS.runk 1 (by simp (disch := first|omega|(simp only[ln];omega)) [List.take_succ_cons, List.take_zero, idf_Wd', Sp.av, Sp.cells, Sg.av, Sg.cells]; rfl) ?_
    simp only [List.drop_succ_cons, List.drop_zero]
    refine AOPS.ocallL 4 (own0 _) rfl rfl rfl hb25 (by simp (disch := first|omega|(simp only[ln];omega)) [lv, idf_Wd', lv_sp, lv_sg, lv_m2, lv_int, lv_bool, lv_nsl, lv_pr, List.map_map, List.length_map, hLl, hpl, tkL, tkP, mkR_len, mkR_take2, Sp.av, Sp.cells, Sg.av, Sg.cells]) (⟨fun _ h => by simp [nwr, nwrL]; try exact h, by simp [nwr, nwrL, Sp.cells, Sg.cells]⟩) (by simp (disch := first|omega|(simp only[ln];omega))) (by simp) ?_
    intro ix nx2 nx2a nx2b
    simp only [] at nx2a nx2b
    simp only [puts_some, updo]
    refine AOPS.all (by simp (disch := first|omega|(simp only[ln];omega)) [idf_Wd', Sp.av, Sp.cells, Sg.av, Sg.cells]; rfl) ?_
    refine hK8 _ ?_
    refine AWP.seqk fun K9 hK9 => ?_
    refine AWP.region ?_
    refine AOPS.runk 1 (by simp (disch := first|omega|(simp only[ln];omega)) [List.take_succ_cons, List.take_zero, idf_Wd', Sp.av, Sp.cells, Sg.av, Sg.cells]; rfl) ?_
    simp only [List.drop_succ_cons, List.drop_zero]
    refine AOPS.ocallL 4 (own1' _) rfl rfl rfl hb54 (by simp (disch := first|omega|(simp only[ln];omega)) [lv, idf_Wd', lv_sp, lv_sg, lv_m2, lv_int, lv_bool, lv_nsl, lv_pr, List.map_map, List.length_map, hLl, hpl, tkL, tkP, mkR_len, mkR_take2, Sp.av, Sp.cells, Sg.av, Sg.cells]) (⟨fun _ h => by simp [nwr, nwrL]; try exact h, nwr_pr _ _⟩) (by simp (disch := first|omega|(simp only[ln];omega))) (by simp) ?_
    intro ig nx3 nx3a nx3b
    simp only [] at nx3a nx3b
    simp only [puts_some, updo]
    refine AOPS.all (by simp (disch := first|omega|(simp only[ln];omega)) [idf_Wd', Sp.av, Sp.cells, Sg.av, Sg.cells]; rfl) ?_
    refine hK9 _ ?_
    refine AWP.seqk fun K10 hK10 => ?_
    refine AWP.seqk fun K11 hK11 => ?_
    refine AWP.region ?_
    refine AOPS.runk 2 (by simp (disch := first|omega|(simp only[ln];omega)) [List.take_succ_cons, List.take_zero, idf_Wd', Sp.av, Sp.cells, Sg.av, Sg.cells, hLl, hpl]; rfl) ?_
    simp only [List.drop_succ_cons, List.drop_zero]
    refine AOPS.lcall 4 (eqPairS_fc (cpF L) (by omega)) rfl rfl rfl hb55 (by simp (disch := first|omega|(simp only[ln];omega)) [lv, idf_Wd', lv_sp, lv_sg, lv_m2, lv_int, lv_bool, lv_nsl, lv_pr, List.map_map, List.length_map, hLl, hpl, tkL, tkP, mkR_len, mkR_take2, hLl, hpl, Sp.av, Sp.cells, Sg.av, Sg.cells]) (by simp [atm, atmL]) (by simp (disch := first|omega|(simp only[ln];omega)) [hLl, hpl]) (by simp) ?_
    simp only [puts_some, updo]
    refine AOPS.all (by simp (disch := first|omega|(simp only[ln];omega)) [idf_Wd', Sp.av, Sp.cells, Sg.av, Sg.cells, hLl, hpl]; rfl) ?_
    refine hK11 _ ?_
    refine cond_ok _ (by simp (disch := first|omega|(simp only[ln];omega)); rfl) (fun h40 => ?_) (fun h40 => ?_)
    · simp at h40
    · try simp only [decide_eq_true_eq, decide_eq_false_iff_not] at h40
      refine AWP.skip ?_
      refine hK10 _ ?_
      refine AWP.seqk fun K12 hK12 => ?_
      refine AWP.seqk fun K13 hK13 => ?_
      refine AWP.region ?_
      refine AOPS.runk 2 (by simp (disch := first|omega|(simp only[ln];omega)) [List.take_succ_cons, List.take_zero, idf_Wd', Sp.av, Sp.cells, Sg.av, Sg.cells, hLl]; rfl) ?_
      simp only [List.drop_succ_cons, List.drop_zero]
      refine AOPS.fcall (toSegS_fc L k2) rfl rfl rfl hb25 (by simp (disch := first|omega|(simp only[ln];omega)) [idf_Wd', hLl, Sp.av, Sp.cells, Sg.av, Sg.cells]) (by simp (disch := first|omega|(simp only[ln];omega)) [hLl]) (by simp) ?_
      simp only [puts_some, updo]
      refine AOPS.lcall 4 (eqSegS_fc L hl) rfl rfl rfl hb27 (by simp (disch := first|omega|(simp only[ln];omega)) [lv, idf_Wd', lv_sp, lv_sg, lv_m2, lv_int, lv_bool, lv_nsl, lv_pr, List.map_map, List.length_map, hLl, hpl, tkL, tkP, mkR_len, mkR_take2, hLl, Sp.av, Sp.cells, Sg.av, Sg.cells]) (by simp [atm, atmL]) (by simp (disch := first|omega|(simp only[ln];omega)) [hLl]) (by simp) ?_
      simp only [puts_some, updo]
      refine AOPS.all (by simp (disch := first|omega|(simp only[ln];omega)) [idf_Wd', Sp.av, Sp.cells, Sg.av, Sg.cells, hLl]; rfl) ?_
      refine hK13 _ ?_
      refine cond_ok _ (by simp (disch := first|omega|(simp only[ln];omega)); rfl) (fun h45 => ?_) (fun h45 => ?_)
      · simp at h45
      · try simp only [decide_eq_true_eq, decide_eq_false_iff_not] at h45
        refine AWP.skip ?_
        refine hK12 _ ?_
        refine AWP.seqk fun K14 hK14 => ?_
        refine AWP.region (AOPS.all (by simp (disch := first|omega|(simp only[ln];omega)) [idf_Wd', Sp.av, Sp.cells, Sg.av, Sg.cells]; rfl) ?_)
        refine hK14 _ ?_
        refine AWP.seqk fun K15 hK15 => ?_
        have J15 : ∀ s : St, (∃ ig : Nat, s.env 0 = .isl (L.map Sg.cells) ∧ s.env 4 = .isl ((cpF L).map prC) ∧ s.env 5 = .bool true ∧ s.env 7 = .osl ig 0 m ∧ s.env 8 = .bool true ∧ s.env 9 = .int .i64 (1 + 4 * (n : Int)) ∧ s.heap ig = some (2, (cpF L).map prC) ∧ ig < s.nx ∧ s.nt = 96) → K15 s := by
          rintro ⟨e, H, mm, nt⟩ ⟨ig, g0, g4, g5, g7, g8, g9, HG, xG, rfl⟩
          simp only [] at g0 g4 g5 g7 g8 g9 HG xG
          refine hK15 _ ?_
          refine AWP.seqk fun K16 hK16 => ?_
          refine AWP.seqk fun K17 hK17 => ?_
          refine AWP.region ?_
          refine AOPS.runk 5 (by simp (disch := first|omega|(simp only[ln];omega)) [List.take_succ_cons, List.take_zero, idf_Wd', Sp.av, Sp.cells, Sg.av, Sg.cells, g0, g4, g5, g7, g8, g9, HG, neg4]; rfl) ?_
          simp only [List.drop_succ_cons, List.drop_zero]
          refine AOPS.lcall 4 (eqPairS_fc (cpF L) (by omega)) rfl rfl rfl hb55 (by simp (disch := first|omega|(simp only[ln];omega)) [lv, idf_Wd', lv_sp, lv_sg, lv_m2, lv_int, lv_bool, lv_nsl, lv_pr, List.map_map, List.length_map, hLl, hpl, tkL, tkP, mkR_len, mkR_take2, g0, g4, g5, g7, g8, g9, HG, neg4, Sp.av, Sp.cells, Sg.av, Sg.cells]) (by simp [atm, atmL]) (by simp (disch := first|omega|(simp only[ln];omega)) [g0, g4, g5, g7, g8, g9, HG, neg4]) (by simp) ?_
          simp only [puts_some, updo]
          refine AOPS.all (by simp (disch := first|omega|(simp only[ln];omega)) [idf_Wd', Sp.av, Sp.cells, Sg.av, Sg.cells, g0, g4, g5, g7, g8, g9, HG, neg4]; rfl) ?_
          refine hK17 _ ?_
          refine cond_ok _ (by simp (disch := first|omega|(simp only[ln];omega)); rfl) (fun h61 => ?_) (fun h61 => ?_)
          · simp at h61
          · try simp only [decide_eq_true_eq, decide_eq_false_iff_not] at h61
            refine AWP.skip ?_
            refine hK16 _ ?_
            refine AWP.seqk fun K18 hK18 => ?_
            refine AWP.region (AOPS.all (by simp (disch := first|omega|(simp only[ln];omega)) [idf_Wd', Sp.av, Sp.cells, Sg.av, Sg.cells]; rfl) ?_)
            refine hK18 _ ?_
            refine AWP.seqk fun K19 hK19 => ?_
            have J19 : ∀ s : St, (∃ ig : Nat, s.env 0 = .isl (L.map Sg.cells) ∧ s.env 4 = .isl ((cpF L).map prC) ∧ s.env 5 = .bool true ∧ s.env 7 = .osl ig 0 m ∧ s.env 8 = .bool true ∧ s.env 10 = .int .i64 (1 + 2 * (m : Int)) ∧ s.heap ig = some (2, mkR (m2 1) m) ∧ ig < s.nx ∧ s.nt = 96) → K19 s := by
              clear g0 g4 g5 g7 g8 g9 HG xG
              rintro ⟨e, H, mm, nt⟩ ⟨ig, g0, g4, g5, g7, g8, g10, HG, xG, rfl⟩
              simp only [] at g0 g4 g5 g7 g8 g10 HG xG
              refine hK19 _ ?_
              refine AWP.seqk fun K20 hK20 => ?_
              refine AWP.region (AOPS.all (by simp (disch := first|omega|(simp only[ln];omega)) [idf_Wd', Sp.av, Sp.cells, Sg.av, Sg.cells]; rfl) ?_)
              refine hK20 _ ?_
              refine AWP.seqk fun K21 hK21 => ?_
              refine AWP.region ?_
              refine AOPS.runk 2 (by simp (disch := first|omega|(simp only[ln];omega)) [List.take_succ_cons, List.take_zero, idf_Wd', Sp.av, Sp.cells, Sg.av, Sg.cells, g0, g4, g5, g7, g8, g10, HG]; rfl) ?_
              simp only [List.drop_succ_cons, List.drop_zero]
              refine AOPS.lcall 4 (heldPairS_fc m 1 (by omega) (by omega) (by omega)) rfl rfl rfl hb58 (by simp (disch := first|omega|(simp only[ln];omega)) [lv, idf_Wd', lv_sp, lv_sg, lv_m2, lv_int, lv_bool, lv_nsl, lv_pr, List.map_map, List.length_map, hLl, hpl, tkL, tkP, mkR_len, mkR_take2, g0, g4, g5, g7, g8, g10, HG, Sp.av, Sp.cells, Sg.av, Sg.cells]) (by simp [atm, atmL]) (by simp (disch := first|omega|(simp only[ln];omega)) [g0, g4, g5, g7, g8, g10, HG]) (by simp) ?_
              simp only [puts_some, updo]
              refine AOPS.all (by simp (disch := first|omega|(simp only[ln];omega)) [idf_Wd', Sp.av, Sp.cells, Sg.av, Sg.cells, g0, g4, g5, g7, g8, g10, HG]; rfl) ?_
              refine hK21 _ ?_
              refine AWP.seqk fun K22 hK22 => ?_
              refine AWP.seqk fun K23 hK23 => ?_
              refine AWP.region (AOPS.all (by simp (disch := first|omega|(simp only[ln];omega)) [idf_Wd', Sp.av, Sp.cells, Sg.av, Sg.cells, neg1]; rfl) ?_)
              refine hK23 _ ?_
              refine cond_ok (false) (by simp (disch := first|omega|(simp only[ln];omega)) [neg1]) (fun h69 => ?_) (fun h69 => ?_)
              · simp at h69
              · try simp only [decide_eq_true_eq, decide_eq_false_iff_not] at h69
                refine AWP.skip ?_
                refine hK22 _ ?_
                refine AWP.seqk fun K24 hK24 => ?_
                refine AWP.seqk fun K25 hK25 => ?_
                refine AWP.region (AOPS.all (by simp (disch := first|omega|(simp only[ln];omega)) [idf_Wd', Sp.av, Sp.cells, Sg.av, Sg.cells, g10]; rfl) ?_)
                refine hK25 _ ?_
                refine cond_ok _ (by simp (disch := first|omega|(simp only[ln];omega)); rfl) (fun h72 => ?_) (fun h72 => ?_)
                · simp at h72
                · try simp only [decide_eq_true_eq, decide_eq_false_iff_not] at h72
                  refine AWP.skip ?_
                  refine hK24 _ ?_
                  refine AWP.seqk fun K26 hK26 => ?_
                  refine AWP.region ?_
                  refine AOPS.runk 1 (by simp (disch := first|omega|(simp only[ln];omega)) [List.take_succ_cons, List.take_zero, idf_Wd', Sp.av, Sp.cells, Sg.av, Sg.cells, g0]; rfl) ?_
                  simp only [List.drop_succ_cons, List.drop_zero]
                  refine AOPS.fcall (toSegS_fc L k2) rfl rfl rfl hb25 (by simp (disch := first|omega|(simp only[ln];omega)) [idf_Wd', g0, Sp.av, Sp.cells, Sg.av, Sg.cells]) (by simp (disch := first|omega|(simp only[ln];omega)) [g0]) (by simp) ?_
                  simp only [puts_some, updo]
                  refine AOPS.ocallL 4 (own1' _) rfl rfl rfl hb54 (by simp (disch := first|omega|(simp only[ln];omega)) [lv, idf_Wd', lv_sp, lv_sg, lv_m2, lv_int, lv_bool, lv_nsl, lv_pr, List.map_map, List.length_map, hLl, hpl, tkL, tkP, mkR_len, mkR_take2, g0, Sp.av, Sp.cells, Sg.av, Sg.cells]) (⟨fun _ h => by simp [nwr, nwrL]; try exact h, nwr_pr _ _⟩) (by simp (disch := first|omega|(simp only[ln];omega)) [g0]) (by simp) ?_
                  intro ih nx6 nx6a nx6b
                  simp only [] at nx6a nx6b
                  simp only [puts_some, updo]
                  refine AOPS.all (by simp (disch := first|omega|(simp only[ln];omega)) [idf_Wd', Sp.av, Sp.cells, Sg.av, Sg.cells, g0]; rfl) ?_
                  refine hK26 _ ?_
                  refine AWP.seqk fun K27 hK27 => ?_
                  refine AWP.seqk fun K28 hK28 => ?_
                  refine AWP.region ?_
                  refine AOPS.runk 2 (by simp (disch := first|omega|(simp only[ln];omega)) [List.take_succ_cons, List.take_zero, idf_Wd', Sp.av, Sp.cells, Sg.av, Sg.cells, g4, g5]; rfl) ?_
                  simp only [List.drop_succ_cons, List.drop_zero]
                  refine AOPS.lcall 4 (eqPairS_fc (cpF L) (by omega)) rfl rfl rfl hb55 (by simp (disch := first|omega|(simp only[ln];omega)) [lv, idf_Wd', lv_sp, lv_sg, lv_m2, lv_int, lv_bool, lv_nsl, lv_pr, List.map_map, List.length_map, hLl, hpl, tkL, tkP, mkR_len, mkR_take2, g4, g5, Sp.av, Sp.cells, Sg.av, Sg.cells]) (by simp [atm, atmL]) (by simp (disch := first|omega|(simp only[ln];omega)) [g4, g5]) (by simp) ?_
                  simp only [puts_some, updo]
                  refine AOPS.all (by simp (disch := first|omega|(simp only[ln];omega)) [idf_Wd', Sp.av, Sp.cells, Sg.av, Sg.cells, g4, g5]; rfl) ?_
                  refine hK28 _ ?_
                  refine cond_ok _ (by simp (disch := first|omega|(simp only[ln];omega)); rfl) (fun h87 => ?_) (fun h87 => ?_)
                  · simp at h87
                  · try simp only [decide_eq_true_eq, decide_eq_false_iff_not] at h87
                    refine AWP.skip ?_
                    refine hK27 _ ?_
                    refine AWP.seqk fun K29 hK29 => ?_
                    refine AWP.region (AOPS.all (by simp (disch := first|omega|(simp only[ln];omega)) [idf_Wd', Sp.av, Sp.cells, Sg.av, Sg.cells]; rfl) ?_)
                    refine hK29 _ ?_
                    refine AWP.seqk fun K30 hK30 => ?_
                    refine AWP.region ?_
                    refine AOPS.runk 2 (by simp (disch := first|omega|(simp only[ln];omega)) [List.take_succ_cons, List.take_zero, idf_Wd', Sp.av, Sp.cells, Sg.av, Sg.cells, g7, HG]; rfl) ?_
                    simp only [List.drop_succ_cons, List.drop_zero]
                    refine AOPS.lcall 4 (heldPairS_fc m 1 (by omega) (by omega) (by omega)) rfl rfl rfl hb58 (by simp (disch := first|omega|(simp only[ln];omega)) [lv, idf_Wd', lv_sp, lv_sg, lv_m2, lv_int, lv_bool, lv_nsl, lv_pr, List.map_map, List.length_map, hLl, hpl, tkL, tkP, mkR_len, mkR_take2, g7, HG, Sp.av, Sp.cells, Sg.av, Sg.cells]) (by simp [atm, atmL]) (by simp (disch := first|omega|(simp only[ln];omega)) [g7, HG]) (by simp) ?_
                    simp only [puts_some, updo]
                    refine AOPS.all (by simp (disch := first|omega|(simp only[ln];omega)) [idf_Wd', Sp.av, Sp.cells, Sg.av, Sg.cells, g7, HG]; rfl) ?_
                    refine hK30 _ ?_
                    refine AWP.seqk fun K31 hK31 => ?_
                    refine AWP.seqk fun K32 hK32 => ?_
                    refine AWP.region (AOPS.all (by simp (disch := first|omega|(simp only[ln];omega)) [idf_Wd', Sp.av, Sp.cells, Sg.av, Sg.cells, neg1]; rfl) ?_)
                    refine hK32 _ ?_
                    refine cond_ok (false) (by simp (disch := first|omega|(simp only[ln];omega)) [neg1]) (fun h92 => ?_) (fun h92 => ?_)
                    · simp at h92
                    · try simp only [decide_eq_true_eq, decide_eq_false_iff_not] at h92
                      refine AWP.skip ?_
                      refine hK31 _ ?_
                      refine AWP.seqk fun K33 hK33 => ?_
                      refine AWP.seqk fun K34 hK34 => ?_
                      refine AWP.region (AOPS.all (by simp (disch := first|omega|(simp only[ln];omega)) [idf_Wd', Sp.av, Sp.cells, Sg.av, Sg.cells, g10]; rfl) ?_)
                      refine hK34 _ ?_
                      refine cond_ok _ (by simp (disch := first|omega|(simp only[ln];omega)); rfl) (fun h95 => ?_) (fun h95 => ?_)
                      · simp at h95
                      · try simp only [decide_eq_true_eq, decide_eq_false_iff_not] at h95
                        refine AWP.skip ?_
                        refine hK33 _ ?_
                        refine AWP.seqk fun K35 hK35 => ?_
                        refine AWP.region (AOPS.all (by simp (disch := first|omega|(simp only[ln];omega)) [idf_Wd', Sp.av, Sp.cells, Sg.av, Sg.cells]; rfl) ?_)
                        refine hK35 _ ?_
                        refine AWP.ret ?_
                        exact hK _ _ _ _ trivial ((Fin.mk (by simp [aRes, aResL, aRes1, idf_Wd', Sp.av, Sp.cells, Sg.av, Sg.cells]; try rfl)))
            refine AWP.region ?_
            refine AOPS.runk 2 (by simp (disch := first|omega|(simp only[ln];omega)) [List.take_succ_cons, List.take_zero, idf_Wd', Sp.av, Sp.cells, Sg.av, Sg.cells, g0, g4, g5, g7, g8, g9, HG]; rfl) ?_
            simp only [List.drop_succ_cons, List.drop_zero]
            refine AOPS.acall (markPairS_ac m ig ((cpF L).map prC) 1 _ _ (by simp (disch := omega) [HG]) (by rw [List.length_map]; exact hpl) (prrow_len (cpF L)) (by omega) (by omega) (by omega)) rfl rfl rfl hb57 (by simp (disch := first|omega|(simp only[ln];omega)) [idf_Wd', g0, g4, g5, g7, g8, g9, HG, Sp.av, Sp.cells, Sg.av, Sg.cells]) (by simp (disch := first|omega|(simp only[ln];omega)) [g0, g4, g5, g7, g8, g9, HG]) (by simp) ?_
            rintro _ _ _ ⟨rfl, rfl, rfl⟩
            simp only [puts_some, updo]
            refine AOPS.all (by simp (disch := first|omega|(simp only[ln];omega)) [idf_Wd', Sp.av, Sp.cells, Sg.av, Sg.cells, g0, g4, g5, g7, g8, g9, HG]; rfl) ?_
            refine J19 _ ?_
            exact ⟨ig, by simp [g0], by simp [g4], by simp [g5], by simp [g7], by simp [g8], by simp, by simp (disch := omega), by first | omega | (simp; omega), rfl⟩
        refine AWP.region ?_
        refine AOPS.runk 2 (by simp (disch := first|omega|(simp only[ln];omega)) [List.take_succ_cons, List.take_zero, idf_Wd', Sp.av, Sp.cells, Sg.av, Sg.cells]; rfl) ?_
        simp only [List.drop_succ_cons, List.drop_zero]
        refine AOPS.acall (markSegS_ac n ix (L.map Sg.cells) 1 _ _ (by simp (disch := omega)) (by rw [List.length_map]; exact hLl) (sgrow_len L) (by omega) (by omega) (by omega)) rfl rfl rfl hb56 (by simp (disch := first|omega|(simp only[ln];omega)) [idf_Wd', Sp.av, Sp.cells, Sg.av, Sg.cells]) (by simp (disch := first|omega|(simp only[ln];omega))) (by simp) ?_
        rintro _ _ _ ⟨rfl, rfl, rfl⟩
        simp only [puts_some, updo]
        refine AOPS.all (by simp (disch := first|omega|(simp only[ln];omega)) [idf_Wd', Sp.av, Sp.cells, Sg.av, Sg.cells]; rfl) ?_
        refine J15 _ ?_
        exact ⟨ig, by simp, by simp, by simp, by simp, by simp, by simp, by simp (disch := omega), by first | omega | (simp; omega), rfl⟩

set_option maxHeartbeats 4000000 in
theorem fnExactCrossPairs_no (L : List Sg) (hl : L.length ≤ 9223372036854775807) (hz : ¬ sgF L = 0) : FC Try.prog 9 [.isl (L.map Sg.cells)] (.bool true) := by
  refine FC.body Try.func9 rfl (by simp [idfL, idf, idfLL_iff, Sp.av, Sp.cells, Sg.av, Sg.cells]) (by simp [idfL, idf, idfLL_iff, idf_Wd', Sp.av, Sp.cells, Sg.av, Sg.cells]) 96 rfl fun nx K hK => ?_
  refine AWP.seqk fun K1 hK1 => ?_
  refine AWP.region (AOPS.all (by simp (disch := first|omega|(simp only[ln];omega)) [idf_Wd', Sp.av, Sp.cells, Sg.av, Sg.cells]; rfl) ?_)
  refine hK1 _ ?_
  refine AWP.seqk fun K2 hK2 => ?_
  refine AWP.region (AOPS.all (by simp (disch := first|omega|(simp only[ln];omega)) [idf_Wd', Sp.av, Sp.cells, Sg.av, Sg.cells]; rfl) ?_)
  refine hK2 _ ?_
  refine AWP.seqk fun K3 hK3 => ?_
  refine AWP.region ?_
  refine AOPS.runk 2 (by simp (disch := first|omega|(simp only[ln];omega)) [List.take_succ_cons, List.take_zero, idf_Wd', Sp.av, Sp.cells, Sg.av, Sg.cells]; rfl) ?_
  simp only [List.drop_succ_cons, List.drop_zero]
  refine AOPS.fcall (szSegS_fc L 1048576 (by omega) (by omega) hl) rfl rfl rfl hb23 (by simp (disch := first|omega|(simp only[ln];omega)) [idf_Wd', Sp.av, Sp.cells, Sg.av, Sg.cells]) (by simp (disch := first|omega|(simp only[ln];omega))) (by simp) ?_
  simp only [puts_some, updo]
  refine AOPS.all (by simp (disch := first|omega|(simp only[ln];omega)) [idf_Wd', Sp.av, Sp.cells, Sg.av, Sg.cells]; rfl) ?_
  refine hK3 _ ?_
  refine AWP.seqk fun K4 hK4 => ?_
  refine AWP.seqk fun K5 hK5 => ?_
  refine AWP.region (AOPS.all (by simp (disch := first|omega|(simp only[ln];omega)) [idf_Wd', Sp.av, Sp.cells, Sg.av, Sg.cells]; rfl) ?_)
  refine hK5 _ ?_
  refine cond_ok (decide (szN L.length 1048576 < 0)) (by simp (disch := first|omega|(simp only[ln];omega))) (fun h18 => ?_) (fun h18 => ?_)
  · try simp only [decide_eq_true_eq, decide_eq_false_iff_not] at h18
    refine AWP.seqk fun K6 hK6 => ?_
    refine AWP.region (AOPS.all (by simp (disch := first|omega|(simp only[ln];omega)) [idf_Wd', Sp.av, Sp.cells, Sg.av, Sg.cells]; rfl) ?_)
    refine hK6 _ ?_
    refine AWP.ret ?_
    exact hK _ _ _ _ trivial ((Fin.mk (by simp [aRes, aResL, aRes1, idf_Wd', Sp.av, Sp.cells, Sg.av, Sg.cells]; try rfl)))
  · try simp only [decide_eq_true_eq, decide_eq_false_iff_not] at h18
    obtain ⟨k1, _⟩ := szN_le h18
    have k2 : L.length ≤ 1048576 := by omega
    have k3 : L.length ≤ 1099511627776 := by omega
    obtain ⟨n, hLl⟩ : ∃ n, L.length = n := ⟨_, rfl⟩
    have tkL : List.take n (L.map Sg.cells) = L.map Sg.cells := List.take_of_length_le (by rw [List.length_map]; omega)
    have own0 := fun nx => toSegS_own L k2 nx
    rw [hLl] at own0
    have neg4 : decide (1 + 4 * (n : Int) < 0) = false := by simp; omega
    refine AWP.skip ?_
    refine hK4 _ ?_
    refine AWP.seqk fun K7 hK7 => ?_
    refine AWP.region ?_
    refine AOPS.runk 1 (by simp (disch := first|omega|(simp only[ln];omega)) [List.take_succ_cons, List.take_zero, idf_Wd', Sp.av, Sp.cells, Sg.av, Sg.cells]; rfl) ?_
    simp only [List.drop_succ_cons, List.drop_zero]
    refine AOPS.fcall (toSegS_fc L k2) rfl rfl rfl hb25 (by simp (disch := first|omega|(simp only[ln];omega)) [idf_Wd', Sp.av, Sp.cells, Sg.av, Sg.cells]) (by simp (disch := first|omega|(simp only[ln];omega))) (by simp) ?_
    simp only [puts_some, updo]
    refine AOPS.fcall (crossPairsS_no L k3 hz) rfl rfl rfl hb53 (by simp (disch := first|omega|(simp only[ln];omega)) [idf_Wd', Sp.av, Sp.cells, Sg.av, Sg.cells]) (by simp (disch := first|omega|(simp only[ln];omega))) (by simp) ?_
    simp only [puts_some, updo]
    refine AOPS.all (by simp (disch := first|omega|(simp only[ln];omega)) [idf_Wd', Sp.av, Sp.cells, Sg.av, Sg.cells]; rfl) ?_
    refine hK7 _ ?_
    refine AWP.seqk fun K8 hK8 => ?_
    refine AWP.region ?_
    refine AOPS.runk 1 (by simp (disch := first|omega|(simp only[ln];omega)) [List.take_succ_cons, List.take_zero, idf_Wd', Sp.av, Sp.cells, Sg.av, Sg.cells]; rfl) ?_
    simp only [List.drop_succ_cons, List.drop_zero]
    refine AOPS.ocallL 4 (own0 _) rfl rfl rfl hb25 (by simp (disch := first|omega|(simp only[ln];omega)) [lv, idf_Wd', lv_sp, lv_sg, lv_m2, lv_int, lv_bool, lv_nsl, List.map_map, List.length_map, hLl, tkL, Sp.av, Sp.cells, Sg.av, Sg.cells]) (⟨fun _ h => by simp [nwr, nwrL]; try exact h, by simp [nwr, nwrL, Sp.cells, Sg.cells]⟩) (by simp (disch := first|omega|(simp only[ln];omega))) (by simp) ?_
    intro ix nx2 nx2a nx2b
    simp only [] at nx2a nx2b
    simp only [puts_some, updo]
    refine AOPS.all (by simp (disch := first|omega|(simp only[ln];omega)) [idf_Wd', Sp.av, Sp.cells, Sg.av, Sg.cells]; rfl) ?_
    refine hK8 _ ?_
    refine AWP.seqk fun K9 hK9 => ?_
    refine AWP.region ?_
    refine AOPS.runk 1 (by simp (disch := first|omega|(simp only[ln];omega)) [List.take_succ_cons, List.take_zero, idf_Wd', Sp.av, Sp.cells, Sg.av, Sg.cells]; rfl) ?_
    simp only [List.drop_succ_cons, List.drop_zero]
    refine AOPS.lcall 4 (crossPairs_no L k3 hz) rfl rfl rfl hb54 (by simp (disch := first|omega|(simp only[ln];omega)) [lv, idf_Wd', lv_sp, lv_sg, lv_m2, lv_int, lv_bool, lv_nsl, List.map_map, List.length_map, hLl, tkL, Sp.av, Sp.cells, Sg.av, Sg.cells]) (by simp [atm, atmL]) (by simp (disch := first|omega|(simp only[ln];omega))) (by simp) ?_
    simp only [puts_some, updo]
    refine AOPS.all (by simp (disch := first|omega|(simp only[ln];omega)) [idf_Wd', Sp.av, Sp.cells, Sg.av, Sg.cells]; rfl) ?_
    refine hK9 _ ?_
    refine AWP.seqk fun K10 hK10 => ?_
    refine AWP.seqk fun K11 hK11 => ?_
    refine AWP.region ?_
    refine AOPS.runk 2 (by simp (disch := first|omega|(simp only[ln];omega)) [List.take_succ_cons, List.take_zero, idf_Wd', Sp.av, Sp.cells, Sg.av, Sg.cells]; rfl) ?_
    simp only [List.drop_succ_cons, List.drop_zero]
    refine AOPS.fcall (eqPairS_nil2) rfl rfl rfl hb55 (by simp (disch := first|omega|(simp only[ln];omega)) [idf_Wd', Sp.av, Sp.cells, Sg.av, Sg.cells]) (by simp (disch := first|omega|(simp only[ln];omega))) (by simp) ?_
    simp only [puts_some, updo]
    refine AOPS.all (by simp (disch := first|omega|(simp only[ln];omega)) [idf_Wd', Sp.av, Sp.cells, Sg.av, Sg.cells]; rfl) ?_
    refine hK11 _ ?_
    refine cond_ok _ (by simp (disch := first|omega|(simp only[ln];omega)); rfl) (fun h40 => ?_) (fun h40 => ?_)
    · simp at h40
    · try simp only [decide_eq_true_eq, decide_eq_false_iff_not] at h40
      refine AWP.skip ?_
      refine hK10 _ ?_
      refine AWP.seqk fun K12 hK12 => ?_
      refine AWP.seqk fun K13 hK13 => ?_
      refine AWP.region ?_
      refine AOPS.runk 2 (by simp (disch := first|omega|(simp only[ln];omega)) [List.take_succ_cons, List.take_zero, idf_Wd', Sp.av, Sp.cells, Sg.av, Sg.cells, hLl]; rfl) ?_
      simp only [List.drop_succ_cons, List.drop_zero]
      refine AOPS.fcall (toSegS_fc L k2) rfl rfl rfl hb25 (by simp (disch := first|omega|(simp only[ln];omega)) [idf_Wd', hLl, Sp.av, Sp.cells, Sg.av, Sg.cells]) (by simp (disch := first|omega|(simp only[ln];omega)) [hLl]) (by simp) ?_
      simp only [puts_some, updo]
      refine AOPS.lcall 4 (eqSegS_fc L hl) rfl rfl rfl hb27 (by simp (disch := first|omega|(simp only[ln];omega)) [lv, idf_Wd', lv_sp, lv_sg, lv_m2, lv_int, lv_bool, lv_nsl, List.map_map, List.length_map, hLl, tkL, hLl, Sp.av, Sp.cells, Sg.av, Sg.cells]) (by simp [atm, atmL]) (by simp (disch := first|omega|(simp only[ln];omega)) [hLl]) (by simp) ?_
      simp only [puts_some, updo]
      refine AOPS.all (by simp (disch := first|omega|(simp only[ln];omega)) [idf_Wd', Sp.av, Sp.cells, Sg.av, Sg.cells, hLl]; rfl) ?_
      refine hK13 _ ?_
      refine cond_ok _ (by simp (disch := first|omega|(simp only[ln];omega)); rfl) (fun h45 => ?_) (fun h45 => ?_)
      · simp at h45
      · try simp only [decide_eq_true_eq, decide_eq_false_iff_not] at h45
        refine AWP.skip ?_
        refine hK12 _ ?_
        refine AWP.seqk fun K14 hK14 => ?_
        refine AWP.region (AOPS.all (by simp (disch := first|omega|(simp only[ln];omega)) [idf_Wd', Sp.av, Sp.cells, Sg.av, Sg.cells]; rfl) ?_)
        refine hK14 _ ?_
        refine AWP.seqk fun K15 hK15 => ?_
        have J15 : ∀ s : St, (s.env 0 = .isl (L.map Sg.cells) ∧ s.env 4 = .nsl ∧ s.env 5 = .bool false ∧ s.env 7 = .nsl ∧ s.env 8 = .bool false ∧ s.env 9 = .int .i64 (1 + 4 * (n : Int)) ∧ s.nt = 96) → K15 s := by
          rintro ⟨e, H, mm, nt⟩ ⟨g0, g4, g5, g7, g8, g9, rfl⟩
          simp only [] at g0 g4 g5 g7 g8 g9
          refine hK15 _ ?_
          refine AWP.seqk fun K16 hK16 => ?_
          refine AWP.seqk fun K17 hK17 => ?_
          refine AWP.region ?_
          refine AOPS.runk 5 (by simp (disch := first|omega|(simp only[ln];omega)) [List.take_succ_cons, List.take_zero, idf_Wd', Sp.av, Sp.cells, Sg.av, Sg.cells, g0, g4, g5, g7, g8, g9, neg4]; rfl) ?_
          simp only [List.drop_succ_cons, List.drop_zero]
          refine AOPS.fcall (eqPairS_nil2) rfl rfl rfl hb55 (by simp (disch := first|omega|(simp only[ln];omega)) [idf_Wd', g0, g4, g5, g7, g8, g9, neg4, Sp.av, Sp.cells, Sg.av, Sg.cells]) (by simp (disch := first|omega|(simp only[ln];omega)) [g0, g4, g5, g7, g8, g9, neg4]) (by simp) ?_
          simp only [puts_some, updo]
          refine AOPS.all (by simp (disch := first|omega|(simp only[ln];omega)) [idf_Wd', Sp.av, Sp.cells, Sg.av, Sg.cells, g0, g4, g5, g7, g8, g9, neg4]; rfl) ?_
          refine hK17 _ ?_
          refine cond_ok _ (by simp (disch := first|omega|(simp only[ln];omega)); rfl) (fun h61 => ?_) (fun h61 => ?_)
          · simp at h61
          · try simp only [decide_eq_true_eq, decide_eq_false_iff_not] at h61
            refine AWP.skip ?_
            refine hK16 _ ?_
            refine AWP.seqk fun K18 hK18 => ?_
            refine AWP.region (AOPS.all (by simp (disch := first|omega|(simp only[ln];omega)) [idf_Wd', Sp.av, Sp.cells, Sg.av, Sg.cells]; rfl) ?_)
            refine hK18 _ ?_
            refine AWP.seqk fun K19 hK19 => ?_
            refine AWP.region ?_
            refine AOPS.runk 2 (by simp (disch := first|omega|(simp only[ln];omega)) [List.take_succ_cons, List.take_zero, idf_Wd', Sp.av, Sp.cells, Sg.av, Sg.cells, g0, g4, g5, g7, g8, g9]; rfl) ?_
            simp only [List.drop_succ_cons, List.drop_zero]
            refine AOPS.fcall (markPairS_nil2 1 (by omega) (by omega)) rfl rfl rfl hb57 (by simp (disch := first|omega|(simp only[ln];omega)) [idf_Wd', g0, g4, g5, g7, g8, g9, Sp.av, Sp.cells, Sg.av, Sg.cells]) (by simp (disch := first|omega|(simp only[ln];omega)) [g0, g4, g5, g7, g8, g9]) (by simp) ?_
            simp only [puts_some, updo]
            refine AOPS.all (by simp (disch := first|omega|(simp only[ln];omega)) [idf_Wd', Sp.av, Sp.cells, Sg.av, Sg.cells, g0, g4, g5, g7, g8, g9]; rfl) ?_
            refine hK19 _ ?_
            refine AWP.seqk fun K20 hK20 => ?_
            refine AWP.region (AOPS.all (by simp (disch := first|omega|(simp only[ln];omega)) [idf_Wd', Sp.av, Sp.cells, Sg.av, Sg.cells]; rfl) ?_)
            refine hK20 _ ?_
            refine AWP.seqk fun K21 hK21 => ?_
            refine AWP.region ?_
            refine AOPS.runk 2 (by simp (disch := first|omega|(simp only[ln];omega)) [List.take_succ_cons, List.take_zero, idf_Wd', Sp.av, Sp.cells, Sg.av, Sg.cells, g0, g4, g5, g7, g8, g9]; rfl) ?_
            simp only [List.drop_succ_cons, List.drop_zero]
            refine AOPS.fcall (heldPairS_nil2 1 (by omega) (by omega)) rfl rfl rfl hb58 (by simp (disch := first|omega|(simp only[ln];omega)) [idf_Wd', g0, g4, g5, g7, g8, g9, Sp.av, Sp.cells, Sg.av, Sg.cells]) (by simp (disch := first|omega|(simp only[ln];omega)) [g0, g4, g5, g7, g8, g9]) (by simp) ?_
            simp only [puts_some, updo]
            refine AOPS.all (by simp (disch := first|omega|(simp only[ln];omega)) [idf_Wd', Sp.av, Sp.cells, Sg.av, Sg.cells, g0, g4, g5, g7, g8, g9]; rfl) ?_
            refine hK21 _ ?_
            refine AWP.seqk fun K22 hK22 => ?_
            refine AWP.seqk fun K23 hK23 => ?_
            refine AWP.region (AOPS.all (by simp (disch := first|omega|(simp only[ln];omega)) [idf_Wd', Sp.av, Sp.cells, Sg.av, Sg.cells]; rfl) ?_)
            refine hK23 _ ?_
            refine cond_ok _ (by simp (disch := first|omega|(simp only[ln];omega)); rfl) (fun h69 => ?_) (fun h69 => ?_)
            · simp at h69
            · try simp only [decide_eq_true_eq, decide_eq_false_iff_not] at h69
              refine AWP.skip ?_
              refine hK22 _ ?_
              refine AWP.seqk fun K24 hK24 => ?_
              refine AWP.seqk fun K25 hK25 => ?_
              refine AWP.region (AOPS.all (by simp (disch := first|omega|(simp only[ln];omega)) [idf_Wd', Sp.av, Sp.cells, Sg.av, Sg.cells]; rfl) ?_)
              refine hK25 _ ?_
              refine cond_ok _ (by simp (disch := first|omega|(simp only[ln];omega)); rfl) (fun h72 => ?_) (fun h72 => ?_)
              · simp at h72
              · try simp only [decide_eq_true_eq, decide_eq_false_iff_not] at h72
                refine AWP.skip ?_
                refine hK24 _ ?_
                refine AWP.seqk fun K26 hK26 => ?_
                refine AWP.region ?_
                refine AOPS.runk 1 (by simp (disch := first|omega|(simp only[ln];omega)) [List.take_succ_cons, List.take_zero, idf_Wd', Sp.av, Sp.cells, Sg.av, Sg.cells, g0]; rfl) ?_
                simp only [List.drop_succ_cons, List.drop_zero]
                refine AOPS.fcall (toSegS_fc L k2) rfl rfl rfl hb25 (by simp (disch := first|omega|(simp only[ln];omega)) [idf_Wd', g0, Sp.av, Sp.cells, Sg.av, Sg.cells]) (by simp (disch := first|omega|(simp only[ln];omega)) [g0]) (by simp) ?_
                simp only [puts_some, updo]
                refine AOPS.fcall (crossPairs_no L k3 hz) rfl rfl rfl hb54 (by simp (disch := first|omega|(simp only[ln];omega)) [idf_Wd', g0, Sp.av, Sp.cells, Sg.av, Sg.cells]) (by simp (disch := first|omega|(simp only[ln];omega)) [g0]) (by simp) ?_
                simp only [puts_some, updo]
                refine AOPS.all (by simp (disch := first|omega|(simp only[ln];omega)) [idf_Wd', Sp.av, Sp.cells, Sg.av, Sg.cells, g0]; rfl) ?_
                refine hK26 _ ?_
                refine AWP.seqk fun K27 hK27 => ?_
                refine AWP.seqk fun K28 hK28 => ?_
                refine AWP.region ?_
                refine AOPS.runk 2 (by simp (disch := first|omega|(simp only[ln];omega)) [List.take_succ_cons, List.take_zero, idf_Wd', Sp.av, Sp.cells, Sg.av, Sg.cells, g4, g5]; rfl) ?_
                simp only [List.drop_succ_cons, List.drop_zero]
                refine AOPS.fcall (eqPairS_nil2) rfl rfl rfl hb55 (by simp (disch := first|omega|(simp only[ln];omega)) [idf_Wd', g4, g5, Sp.av, Sp.cells, Sg.av, Sg.cells]) (by simp (disch := first|omega|(simp only[ln];omega)) [g4, g5]) (by simp) ?_
                simp only [puts_some, updo]
                refine AOPS.all (by simp (disch := first|omega|(simp only[ln];omega)) [idf_Wd', Sp.av, Sp.cells, Sg.av, Sg.cells, g4, g5]; rfl) ?_
                refine hK28 _ ?_
                refine cond_ok _ (by simp (disch := first|omega|(simp only[ln];omega)); rfl) (fun h87 => ?_) (fun h87 => ?_)
                · simp at h87
                · try simp only [decide_eq_true_eq, decide_eq_false_iff_not] at h87
                  refine AWP.skip ?_
                  refine hK27 _ ?_
                  refine AWP.seqk fun K29 hK29 => ?_
                  refine AWP.region (AOPS.all (by simp (disch := first|omega|(simp only[ln];omega)) [idf_Wd', Sp.av, Sp.cells, Sg.av, Sg.cells]; rfl) ?_)
                  refine hK29 _ ?_
                  refine AWP.seqk fun K30 hK30 => ?_
                  refine AWP.region ?_
                  refine AOPS.runk 2 (by simp (disch := first|omega|(simp only[ln];omega)) [List.take_succ_cons, List.take_zero, idf_Wd', Sp.av, Sp.cells, Sg.av, Sg.cells, g7]; rfl) ?_
                  simp only [List.drop_succ_cons, List.drop_zero]
                  refine AOPS.fcall (heldPairS_nil2 1 (by omega) (by omega)) rfl rfl rfl hb58 (by simp (disch := first|omega|(simp only[ln];omega)) [idf_Wd', g7, Sp.av, Sp.cells, Sg.av, Sg.cells]) (by simp (disch := first|omega|(simp only[ln];omega)) [g7]) (by simp) ?_
                  simp only [puts_some, updo]
                  refine AOPS.all (by simp (disch := first|omega|(simp only[ln];omega)) [idf_Wd', Sp.av, Sp.cells, Sg.av, Sg.cells, g7]; rfl) ?_
                  refine hK30 _ ?_
                  refine AWP.seqk fun K31 hK31 => ?_
                  refine AWP.seqk fun K32 hK32 => ?_
                  refine AWP.region (AOPS.all (by simp (disch := first|omega|(simp only[ln];omega)) [idf_Wd', Sp.av, Sp.cells, Sg.av, Sg.cells]; rfl) ?_)
                  refine hK32 _ ?_
                  refine cond_ok _ (by simp (disch := first|omega|(simp only[ln];omega)); rfl) (fun h92 => ?_) (fun h92 => ?_)
                  · simp at h92
                  · try simp only [decide_eq_true_eq, decide_eq_false_iff_not] at h92
                    refine AWP.skip ?_
                    refine hK31 _ ?_
                    refine AWP.seqk fun K33 hK33 => ?_
                    refine AWP.seqk fun K34 hK34 => ?_
                    refine AWP.region (AOPS.all (by simp (disch := first|omega|(simp only[ln];omega)) [idf_Wd', Sp.av, Sp.cells, Sg.av, Sg.cells]; rfl) ?_)
                    refine hK34 _ ?_
                    refine cond_ok _ (by simp (disch := first|omega|(simp only[ln];omega)); rfl) (fun h95 => ?_) (fun h95 => ?_)
                    · simp at h95
                    · try simp only [decide_eq_true_eq, decide_eq_false_iff_not] at h95
                      refine AWP.skip ?_
                      refine hK33 _ ?_
                      refine AWP.seqk fun K35 hK35 => ?_
                      refine AWP.region (AOPS.all (by simp (disch := first|omega|(simp only[ln];omega)) [idf_Wd', Sp.av, Sp.cells, Sg.av, Sg.cells]; rfl) ?_)
                      refine hK35 _ ?_
                      refine AWP.ret ?_
                      exact hK _ _ _ _ trivial ((Fin.mk (by simp [aRes, aResL, aRes1, idf_Wd', Sp.av, Sp.cells, Sg.av, Sg.cells]; try rfl)))
        refine AWP.region ?_
        refine AOPS.runk 2 (by simp (disch := first|omega|(simp only[ln];omega)) [List.take_succ_cons, List.take_zero, idf_Wd', Sp.av, Sp.cells, Sg.av, Sg.cells]; rfl) ?_
        simp only [List.drop_succ_cons, List.drop_zero]
        refine AOPS.acall (markSegS_ac n ix (L.map Sg.cells) 1 _ _ (by simp (disch := omega)) (by rw [List.length_map]; exact hLl) (sgrow_len L) (by omega) (by omega) (by omega)) rfl rfl rfl hb56 (by simp (disch := first|omega|(simp only[ln];omega)) [idf_Wd', Sp.av, Sp.cells, Sg.av, Sg.cells]) (by simp (disch := first|omega|(simp only[ln];omega))) (by simp) ?_
        rintro _ _ _ ⟨rfl, rfl, rfl⟩
        simp only [puts_some, updo]
        refine AOPS.all (by simp (disch := first|omega|(simp only[ln];omega)) [idf_Wd', Sp.av, Sp.cells, Sg.av, Sg.cells]; rfl) ?_
        refine J15 _ ?_
        exact ⟨by simp, by simp, by simp, by simp, by simp, by simp, rfl⟩
theorem fnExactCrossPairs_fc (L : List Sg) (hl : L.length ≤ 9223372036854775807) : FC Try.prog 9 [.isl (L.map Sg.cells)] (.bool true) := by
  by_cases hz : sgF L = 0
  · exact fnExactCrossPairs_yes L hl hz
  · exact fnExactCrossPairs_no L hl hz

end Go.Proofs.Ytmaebeknmiomnaa
