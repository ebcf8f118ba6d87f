/- Walks: spots and segments. -/
import Derived.Test.YtdcajfgeleopiaaG10

namespace Go.Proofs.Ytdcajfgeleopiaa
open Go Go.RowKit
set_option linter.unusedSimpArgs false
set_option linter.unusedVariables false
set_option maxRecDepth 100000
attribute [local simp] szT2 byT2 agT2 unT2 zoT2 szT26 byT26 agT26 flT26 fdT26_0 fdT26_1 fdT26_2 fdT26_3 zoT26 szT51 byT51 agT51 flT51 fdT51_0 fdT51_1 fdT51_2 zoT51 szT102 byT102 agT102 flT102 fdT102_0 fdT102_1 zoT102 szT158 byT158 agT158 flT158 fdT158_0 fdT158_1 zoT158

theorem eqW2 (p q : Sp) : eqW Try.prog 8 102 [.int .i64 p.x, .int .i64 p.y] [.int .i64 q.x, .int .i64 q.y] = some (decide (p = q)) := by
  obtain ⟨a, b⟩ := p
  obtain ⟨a', b'⟩ := q
  have hs : Try.prog.stoodInHeld 102 = false := by kernel_rfl
  have hz : szOf Try.prog 2 = some 1 := by kernel_rfl
  have ha : aggT Try.prog 2 = some false := by kernel_rfl
  have e1 : ∀ (n : Nat) (x y : Int), eqW Try.prog (n + 1) 2 [.int .i64 x] [.int .i64 y] = some (x == y) := fun n x y => by
    unfold eqW
    simp only [Try.underlying2]
    first | rfl | simp [eqF]
  unfold eqW
  simp only [Try.underlying102, hs]
  simp [eqF, hz, ha, e1]
  rw [Bool.eq_iff_iff]
  simp
theorem lsS_dec (p q : Sp) : decide (cmS p q < 0) = lsS p q := by rw [Bool.eq_iff_iff, decide_eq_true_eq]; exact cmS_neg
theorem wdZ_l {n : Int} (hf : fits n = true) : wdZ n = .agg (W4z n).l := by
  have e := wdT_l n
  unfold wdT at e
  rw [if_pos hf] at e; exact e
theorem wideOf4_fc (n : Int) (h1 : -9223372036854775808 ≤ n) (h2 : n ≤ 9223372036854775807) (hf : fits n = true) : FC Try.prog 49 [.int .i64 n] (.agg [.int .u64 (W4z n).a, .int .u64 (W4z n).b, .int .u64 (W4z n).c, .int .u64 (W4z n).d]) := by
  have h := wideOf_fc n h1 h2
  rw [wdZ_l hf] at h; exact h
theorem inM_fits {x : Int} (h : inM x = true) : fits x = true := by
  have := inM_b h; unfold fits; simp; omega
theorem sm1 {x y : Int} (hx : inM x = true) (hy : inM y = true) : sm x y 1 = true := by
  have := inM_b hx; have := inM_b hy
  have e : (2 : Nat) ^ 80 = 1208925819614629174706176 := by decide
  simp only [sm, Bool.and_eq_true, decide_eq_true_eq, bitLen_le, e]; omega

theorem within_fc (n a b : Int) : FC Try.prog 132 [.int .i64 n, .int .i64 a, .int .i64 b] (.bool (decide (a ≤ n) && decide (n ≤ b))) := by
 refine .b Try.func132 15 (fun nx K hK => ?_)
 refine .q ?_
 refine .sq fun K2 hK2 => ?_
 cases h : decide (a ≤ n)
 ·refine .r ?_ (by simp (disch := first|omega|(simp only[ln];omega)) [h]; rfl)
  refine hK2 _ ?_
  refine .ret ?_
  exact hK _ _ _ _ trivial ((Fin.m).cast (by rw [h]; rfl))
 ·refine .r ?_ (by simp (disch := first|omega|(simp only[ln];omega)) [h]; rfl)
  refine hK2 _ ?_
  refine .ret ?_
  exact hK _ _ _ _ trivial ((Fin.m).cast (by rw [h]; rfl))
theorem withinM_fc (n : Int) : FC Try.prog 132 [.int .i64 n, .int .i64 (-1000000), .int .i64 1000000] (.bool (inM n)) := within_fc n (-1000000) 1000000
section
attribute [local simp] Sp.av Sp.cells Sg.av Sg.cells
theorem spotOkI_fc (p : Sp) : FC Try.prog 85 [p.av] (.bool p.good) := by
 refine .b Try.func85 11 (fun nx K hK => ?_) (hi := by simp [idfL, idf, Sp.av, Sp.cells, Sg.av, Sg.cells])
 refine .q ?_
 refine .sq fun K2 hK2 => ?_
 cases hx : inM p.x
 ·refine .region ?_
  refine .kf 2 (withinM_fc p.x) hb132 ?_ (by simp (disch := first|omega|(simp only[ln];omega)) [List.take_succ_cons, List.take_zero, hx]; rfl) (ha := by simp (disch := first|omega|(simp only[ln];omega)) [idf_Wd', hx])
  refine .e ?_ (by simp (disch := first|omega|(simp only[ln];omega)) [hx]; rfl)
  refine hK2 _ ?_
  refine .ret ?_
  exact hK _ _ _ _ trivial ((Fin.m).cast (by unfold Sp.good; rw [hx]; rfl))
 ·refine .region ?_
  refine .kf 2 (withinM_fc p.x) hb132 ?_ (by simp (disch := first|omega|(simp only[ln];omega)) [List.take_succ_cons, List.take_zero, hx]; rfl) (ha := by simp (disch := first|omega|(simp only[ln];omega)) [idf_Wd', hx])
  refine .kf 3 (withinM_fc p.y) hb132 ?_ (by simp (disch := first|omega|(simp only[ln];omega)) [List.take_succ_cons, List.take_zero, hx]; rfl) (ha := by simp (disch := first|omega|(simp only[ln];omega)) [idf_Wd', hx])
  refine .e ?_ (by simp (disch := first|omega|(simp only[ln];omega)) [hx]; rfl)
  refine hK2 _ ?_
  refine .ret ?_
  exact hK _ _ _ _ trivial ((Fin.m).cast (by unfold Sp.good; rw [hx]; rfl))
theorem cmpSpots_fc (p q : Sp) : FC Try.prog 94 [p.av, q.av] (.int .i64 (cmS p q)) := by
 refine .b Try.func94 29 (fun nx K hK => ?_) (hi := by simp [idfL, idf, Sp.av, Sp.cells, Sg.av, Sg.cells])
 refine .q ?_
 refine .sq fun K2 hK2 => ?_
 refine .block ?_
 refine .q ?_ (by simp (disch := first|omega|(simp only[ln];omega)) [eqW2]; rfl)
 refine .c (t := decide (p = q)) (fun h5 => ?_) (fun h5 => ?_)
 ·try simp only[dc]at h5
  refine .q ?_
  refine .ret ?_
  exact hK _ _ _ _ trivial ((Fin.m).cast (by unfold cmS; rw [if_pos h5]))
 ·try simp only[dc]at h5
  have hv : cmS p q = if lsS p q = true then -1 else 1 := by unfold cmS; rw [if_neg h5]
  refine .sq fun K5 hK5 => ?_
  by_cases q1 : p.x < q.x
  ·have hl : lsS p q = true := by simp [lsS, q1]
   have c1 : decide (p.x < q.x) = true := by simp [q1]
   refine .r ?_ (by simp (disch := first|omega|(simp only[ln];omega)) [c1]; rfl)
   refine hK5 _ ?_
   refine .c (fun h9 => ?_) (fun h9 => ?_)
   ·try simp only[dc]at h9
    refine .q ?_
    refine .ret ?_
    exact hK _ _ _ _ trivial ((Fin.m).cast (by rw [hv, hl]; rfl))
   ·simp at h9
  ·have c1 : decide (p.x < q.x) = false := by simp; omega
   by_cases q2 : p.x = q.x
   ·have c2 : (p.x == q.x) = true := by simp [q2]
    refine .r ?_ (by simp (disch := first|omega|(simp only[ln];omega)) [c1, c2]; rfl)
    refine hK5 _ ?_
    refine .c (t := decide (p.y < q.y)) (fun h9 => ?_) (fun h9 => ?_)
    ·try simp only[dc]at h9
     refine .q ?_
     refine .ret ?_
     exact hK _ _ _ _ trivial ((Fin.m).cast (by rw [hv, show lsS p q = true by simp [lsS, q2, h9]]; rfl))
    ·try simp only[dc]at h9
     refine .skip ?_
     refine hK2 _ ?_
     refine .q ?_
     refine .ret ?_
     exact hK _ _ _ _ trivial ((Fin.m).cast (by rw [hv, show lsS p q = false by simp [lsS, q2]; omega]; rfl))
   ·have c2 : (p.x == q.x) = false := by simp [q2]
    refine .r ?_ (by simp (disch := first|omega|(simp only[ln];omega)) [c1, c2]; rfl)
    refine hK5 _ ?_
    refine .c (fun h9 => ?_) (fun h9 => ?_)
    ·simp at h9
    ·try simp only[dc]at h9
     refine .skip ?_
     refine hK2 _ ?_
     refine .q ?_
     refine .ret ?_
     exact hK _ _ _ _ trivial ((Fin.m).cast (by rw [hv, show lsS p q = false by simp [lsS, q2]; omega]; rfl))
set_option maxHeartbeats 1000000 in
theorem cross_fc (a b c : Sp) (ha : a.good = true) (hb : b.good = true) (hc : c.good = true) : FC Try.prog 134 [a.av, b.av, c.av] (.int .i64 (crs a b c)) := by
 have pa := Sp.b ha
 have pb := Sp.b hb
 have pc := Sp.b hc
 have m1 := mul_b (u := b.x - a.x) (v := c.y - a.y) (m := 2000000) (n := 2000000) (by omega) (by omega) (by omega) (by omega) (by omega)
 have m2 := mul_b (u := b.y - a.y) (v := c.x - a.x) (m := 2000000) (n := 2000000) (by omega) (by omega) (by omega) (by omega) (by omega)
 refine .b Try.func134 30 (fun nx K hK => ?_) (hi := by simp [idfL, idf, Sp.av, Sp.cells, Sg.av, Sg.cells])
 refine .q ?_
 refine .q ?_
 refine .ret ?_
 exact hK _ _ _ _ trivial ((Fin.m).cast (by rfl))
end
theorem signI_fc (n : Int) : FC Try.prog 136 [.int .i64 n] (.int .i64 (sg3 n)) := by
 refine .b Try.func136 9 (fun nx K hK => ?_)
 refine .q ?_
 refine .sq fun K2 hK2 => ?_
 refine .block ?_
 refine .q ?_
 refine .c (t := decide (n < 0)) (fun h3 => ?_) (fun h3 => ?_)
 ·try simp only[dc]at h3
  refine .q ?_
  refine .ret ?_
  exact hK _ _ _ _ trivial ((Fin.m).cast (by unfold sg3; rw [if_pos h3]))
 ·try simp only[dc]at h3
  refine .q ?_
  refine .c (t := decide (0 < n)) (fun h6 => ?_) (fun h6 => ?_)
  ·try simp only[dc]at h6
   refine .q ?_
   refine .ret ?_
   exact hK _ _ _ _ trivial ((Fin.m).cast (by unfold sg3; rw [if_neg h3, if_pos h6]))
  ·try simp only[dc]at h6
   refine .skip ?_
   refine hK2 _ ?_
   refine .q ?_
   refine .ret ?_
   exact hK _ _ _ _ trivial ((Fin.m).cast (by unfold sg3; rw [if_neg h3, if_neg h6]))
section
attribute [local simp] Sp.av Sp.cells Sg.av Sg.cells
theorem pointOfI_fc (p : Sp) (hp : p.good = true) : FC Try.prog 135 [p.av] (.agg [.int .u64 (ptS p).x.a, .int .u64 (ptS p).x.b, .int .u64 (ptS p).x.c, .int .u64 (ptS p).x.d, .int .u64 (ptS p).y.a, .int .u64 (ptS p).y.b, .int .u64 (ptS p).y.c, .int .u64 (ptS p).y.d, .int .u64 (ptS p).w.a, .int .u64 (ptS p).w.b, .int .u64 (ptS p).w.c, .int .u64 (ptS p).w.d]) := by
 have pb := Sp.b hp
 have hx : inM p.x = true := by simp [inM]; omega
 have hy : inM p.y = true := by simp [inM]; omega
 have hs := sm1 hx hy
 refine .b Try.func135 11 (fun nx K hK => ?_) (hi := by simp [idfL, idf, Sp.av, Sp.cells, Sg.av, Sg.cells])
 refine .q ?_
 refine .sq fun K2 hK2 => ?_
 refine .d 8 ?_
 refine .k 2 (fun fs3 hfs3 => ?_)
 refine .f (wideOf4_fc p.x (by omega) (by omega) (inM_fits hx)) hb49 ?_
 refine .k 2 (fun fs4 hfs4 => ?_)
 refine .f (wideOf4_fc p.y (by omega) (by omega) (inM_fits hy)) hb49 ?_
 refine .f (wideOf4_fc 1 (by omega) (by omega) (by decide)) hb49 ?_
 refine .k 1 (fun fs5 hfs5 => ?_)
 refine .r 8 (by simp only[ln, hfs3, hfs4, hfs5];omega) ?_
 refine hK2 _ ?_
 refine .ret ?_
 exact hK _ _ _ _ trivial ((Fin.m).cast (by rw [ptS, pt3, if_pos hs]))
end

end Go.Proofs.Ytdcajfgeleopiaa

/- Walks: where segments meet, by the program. -/
namespace Go.Proofs.Ytdcajfgeleopiaa
open Go Go.RowKit
set_option linter.unusedSimpArgs false
set_option linter.unusedVariables false
set_option maxRecDepth 100000
attribute [local simp] szT2 byT2 agT2 unT2 zoT2 szT4 byT4 agT4 unT4 zoT4 szT24 byT24 agT24 unT24 zoT24 szT26 byT26 agT26 flT26 fdT26_0 fdT26_1 fdT26_2 fdT26_3 zoT26 szT51 byT51 agT51 flT51 fdT51_0 fdT51_1 fdT51_2 zoT51 szT87 byT87 agT87 elT87 unT87 zoT87 szT89 byT89 agT89 flT89 fdT89_0 fdT89_1 zoT89 szT116 byT116 agT116 flT116 fdT116_0 fdT116_1 fdT116_2 zoT116 szT150 byT150 agT150 elT150 unT150 zoT150

theorem mx_fold (a b : Int) : (if a < b then b else a) = mx a b := rfl
theorem mn_fold (a b : Int) : (if b < a then b else a) = mn a b := rfl
theorem max_sm2 (x y w : Int) : decide (80 < (if (if bitLen x.natAbs < bitLen y.natAbs then (bitLen y.natAbs : Int) else (bitLen x.natAbs : Int)) < (bitLen w.natAbs : Int) then (bitLen w.natAbs : Int) else if bitLen x.natAbs < bitLen y.natAbs then (bitLen y.natAbs : Int) else (bitLen x.natAbs : Int))) = !sm x y w := by
  rw [← max_sm]
  generalize (if (if bitLen x.natAbs < bitLen y.natAbs then (bitLen y.natAbs : Int) else (bitLen x.natAbs : Int)) < (bitLen w.natAbs : Int) then (bitLen w.natAbs : Int) else if bitLen x.natAbs < bitLen y.natAbs then (bitLen y.natAbs : Int) else (bitLen x.natAbs : Int)) = m
  rw [Bool.eq_iff_iff]; simp
theorem gcd3_x (x y w : Int) : gcd3 x y w ∣ x := Int.dvd_trans (by unfold gcd3; exact Int.ofNat_dvd.2 (Nat.gcd_dvd_left _ _)) (Int.gcd_dvd_left (a := x) (b := y))
theorem gcd3_y (x y w : Int) : gcd3 x y w ∣ y := Int.dvd_trans (by unfold gcd3; exact Int.ofNat_dvd.2 (Nat.gcd_dvd_left _ _)) (Int.gcd_dvd_right (a := x) (b := y))
theorem gcd3_w (x y w : Int) : gcd3 x y w ∣ w := by unfold gcd3; exact Int.dvd_natAbs.1 (Int.ofNat_dvd.2 (Nat.gcd_dvd_right _ _))
theorem div_nrm {x y w z g : Int} (hg : gcd3 x y w = g) (hz : g ∣ z) : z / (if w < 0 then -g else g) = nrm w z / g := by
  unfold nrm; split
  · rw [Int.ediv_neg, Int.neg_ediv_of_dvd hz]
  · rfl

section
attribute [local simp] idf_numI cells_numI numI_fold spA spC numC
set_option maxHeartbeats 4000000 in
theorem spotPoint_fc {j : Nat} (x y w : Int) (bx : Bg j x) (bY : Bg j y) (bw : Bg j w) (hj : j ≤ 16777216) : FC Try.prog 139 [spA x y w] (.tup [.agg [.int .u64 (mkP x y w).x.a, .int .u64 (mkP x y w).x.b, .int .u64 (mkP x y w).x.c, .int .u64 (mkP x y w).x.d, .int .u64 (mkP x y w).y.a, .int .u64 (mkP x y w).y.b, .int .u64 (mkP x y w).y.c, .int .u64 (mkP x y w).y.d, .int .u64 (mkP x y w).w.a, .int .u64 (mkP x y w).w.b, .int .u64 (mkP x y w).w.c, .int .u64 (mkP x y w).w.d], .bool (mkB x y w)]) := by
 obtain ⟨cs, hsf, hse⟩ : ∃ c : Int, FC Try.prog 59 [numI w] (.int .i64 c) ∧ (c == 0) = decide (w = 0) := ⟨_, sign_fc w, by
   by_cases h : w = 0
   · subst h; rfl
   · have : (if w < 0 then (-1 : Int) else if w > 0 then 1 else 0) ≠ 0 := by split <;> (try split) <;> omega
     rw [beq_eq_false_iff_ne.2 this]; simp [h]⟩
 refine .b Try.func139 80 (fun nx K hK => ?_)
 refine .q ?_
 refine .sq fun K2 hK2 => ?_
 refine .sq fun K3 hK3 => ?_
 refine .region ?_
 refine .kf 2 hsf hb59 ?_
 refine .e ?_
 refine hK3 _ ?_
 refine .c (t := decide (w = 0)) (fun h15 => ?_) (fun h15 => ?_) (by simp (disch := first|omega|(simp only[ln];omega)) [hse])
 ·try simp only[dc]at h15
  refine .q ?_
  refine .ret ?_
  exact hK _ _ _ _ trivial ((Fin.m).cast (by unfold mkP mkB; rw [if_pos h15, if_pos h15]; rfl))
 ·try simp only[dc]at h15
  have hw : w ≠ 0 := h15
  have hgp := gcd3_pos (x := x) (y := y) hw
  have hgx := gcd3_x x y w
  have hgy := gcd3_y x y w
  have hgw := gcd3_w x y w
  have eP : mkP x y w = pt3 (nrm w x / gcd3 x y w) (nrm w y / gcd3 x y w) (nrm w w / gcd3 x y w) := by unfold mkP; rw [if_neg hw]
  have eB : mkB x y w = sm (nrm w x / gcd3 x y w) (nrm w y / gcd3 x y w) (nrm w w / gcd3 x y w) := by unfold mkB; rw [if_neg hw]
  have bG : Bg j (gcd3 x y w) := by
    have b1 : Bg j ((Int.gcd x y : Nat) : Int) := Bg.gcd bx.abs bY.abs
    exact Bg.gcd b1 bw.abs
  have hg2 : FC Try.prog 60 [.isl [numC x, numC y, numC w]] (numI (gcd3 x y w)) := by
    have h := gcd_fc (j := j) [x, y, w] (by intro z hz; simp only [List.mem_cons, List.not_mem_nil, or_false] at hz; rcases hz with rfl | rfl | rfl <;> assumption) (by omega) (by simp)
    rw [gcdL_three] at h; exact h
  generalize hgg : gcd3 x y w = g at *
  have bX := (bx.nrm (w := w)).div hgp
  have bYY := (bY.nrm (w := w)).div hgp
  have bW := (bw.nrm (w := w)).div hgp
  refine .skip ?_
  refine hK2 _ ?_
  refine .sq fun K5 hK5 => ?_
  refine .region ?_
  refine .k 7 ?_
  refine AOPS.frz1 23 (nx + 1 + 1) 2 [numC x, numC y, numC w] (.isl [numC x, numC y, numC w]) (by simp [numC]) (by simp [fz, numC]) ?_
  refine .f hg2 hb60 ?_
  refine .e ?_
  refine hK5 _ ?_
  refine .sq fun K6 hK6 => ?_
  have J6 : ∀ s : St, (∃ D : Int, D = (if w < 0 then -g else g) ∧ s.env 1 = .ptr nx 0 0 ∧ s.env 2 = .ptr (nx + 1) 0 0 ∧ s.env 4 = .ptr (nx + 1 + 1 + 1) 0 0 ∧ s.env 3 = .bool false ∧ s.heap nx = some (6, [[.bool (decide (x < 0)), Wd .u64 (mag x), .bool (decide (y < 0)), Wd .u64 (mag y), .bool (decide (w < 0)), Wd .u64 (mag w)]]) ∧ s.heap (nx + 1) = some (12, [[.int .u64 0, .int .u64 0, .int .u64 0, .int .u64 0, .int .u64 0, .int .u64 0, .int .u64 0, .int .u64 0, .int .u64 0, .int .u64 0, .int .u64 0, .int .u64 0]]) ∧ s.heap (nx + 1 + 1 + 1) = some (2, [[.bool (decide (D < 0)), Wd .u64 (mag (D))]]) ∧ nx + 1 + 1 + 1 < s.nx ∧ s.nt = 80) → K6 s := by
   rintro ⟨e, H, mm, nt⟩ ⟨D, hD, h1, h2, h4, h3, hA, hB, hC, hm, rfl⟩
   simp only [] at h1 h2 h4 h3 hA hB hC hm
   have dX := div_nrm hgg hgx
   have dY := div_nrm hgg hgy
   have dW := div_nrm hgg hgw
   rw [← hD] at dX dY dW
   have bD : Bg j D := by rw [hD]; split; exact bG.neg; exact bG
   have hDn : D ≠ 0 := by rw [hD]; split <;> omega
   have ox := over_fc x D hDn bx bD hj
   have oy := over_fc y D hDn bY bD hj
   have ow := over_fc w D hDn bw bD hj
   rw [dX] at ox
   rw [dY] at oy
   rw [dW] at ow
   generalize nrm w x / g = X at *
   generalize nrm w y / g = Y at *
   generalize nrm w w / g = W at *
   have hms := max_sm2 X Y W
   have w1 := wide_fc bX (by omega)
   have w2 := wide_fc bYY (by omega)
   have w3 := wide_fc bW (by omega)
   rw [wdT_l] at w1 w2 w3
   unfold W4.l at w1 w2 w3
   clear dX dY dW
   refine hK6 _ ?_
   refine .sq fun K7 hK7 => ?_
   refine .region ?_
   refine .kf 3 ox hb173 ?_ (by simp (disch := first|omega|(simp only[ln];omega)) [List.take_succ_cons, List.take_zero, h1, h4, hA, hC]; rfl) (ha := by simp (disch := first|omega|(simp only[ln];omega)) [idf_Wd', h1, h4, hA, hC])
   refine .e ?_ (by simp (disch := first|omega|(simp only[ln];omega)) [h1, h4, hA, hC]; rfl)
   refine hK7 _ ?_
   refine .sq fun K8 hK8 => ?_
   refine .region ?_
   refine .kf 3 oy hb173 ?_ (by simp (disch := first|omega|(simp only[ln];omega)) [List.take_succ_cons, List.take_zero, h1, h4, hA, hC]; rfl) (ha := by simp (disch := first|omega|(simp only[ln];omega)) [idf_Wd', h1, h4, hA, hC])
   refine .e ?_ (by simp (disch := first|omega|(simp only[ln];omega)) [h1, h4, hA, hC]; rfl)
   refine hK8 _ ?_
   refine .sq fun K9 hK9 => ?_
   refine .region ?_
   refine .kf 3 ow hb173 ?_ (by simp (disch := first|omega|(simp only[ln];omega)) [List.take_succ_cons, List.take_zero, h1, h4, hA, hC]; rfl) (ha := by simp (disch := first|omega|(simp only[ln];omega)) [idf_Wd', h1, h4, hA, hC])
   refine .e ?_ (by simp (disch := first|omega|(simp only[ln];omega)) [h1, h4, hA, hC]; rfl)
   refine hK9 _ ?_
   refine .sq fun K10 hK10 => ?_
   refine .sq fun K11 hK11 => ?_
   refine .d 8 ?_
   refine .k 1 (fun fs12 hfs12 => ?_) (by simp (disch := first|omega|(simp only[ln];omega)) [runDf.eq_def, runF1, runF2, stepF.eq_def, updo.eq_def, hupo.eq_def, opSto1.eq_def, List.take_succ_cons, List.take_zero, hms]; rfl)
   refine .f (size_fc bX (by omega)) hb77 ?_ (ha := by simp (disch := first|omega|(simp only[ln];omega)) [idf_Wd', hms])
   refine .k 1 (fun fs13 hfs13 => ?_) (by simp (disch := first|omega|(simp only[ln];omega)) [runDf.eq_def, runF1, runF2, stepF.eq_def, updo.eq_def, hupo.eq_def, opSto1.eq_def, List.take_succ_cons, List.take_zero, hms]; rfl)
   refine .f (size_fc bYY (by omega)) hb77 ?_ (ha := by simp (disch := first|omega|(simp only[ln];omega)) [idf_Wd', hms])
   refine .k 1 (fun fs14 hfs14 => ?_) (by simp (disch := first|omega|(simp only[ln];omega)) [runDf.eq_def, runF1, runF2, stepF.eq_def, updo.eq_def, hupo.eq_def, opSto1.eq_def, List.take_succ_cons, List.take_zero, hms]; rfl)
   refine .f (size_fc bW (by omega)) hb77 ?_ (ha := by simp (disch := first|omega|(simp only[ln];omega)) [idf_Wd', hms])
   refine .k 2 (fun fs15 hfs15 => ?_) (by simp (disch := first|omega|(simp only[ln];omega)) [runDf.eq_def, runF1, runF2, stepF.eq_def, updo.eq_def, hupo.eq_def, opSto1.eq_def, List.take_succ_cons, List.take_zero, hms]; rfl)
   refine .r 8 (by simp only[ln, hfs12, hfs13, hfs14, hfs15];omega) ?_ (by simp (disch := first|omega|(simp only[ln];omega)) [runDf.eq_def, runF1, runF2, stepF.eq_def, updo.eq_def, hupo.eq_def, opSto1.eq_def, hms]; rfl)
   refine hK11 _ ?_
   refine .c (t := !sm X Y W) (fun h58 => ?_) (fun h58 => ?_)
   ·try simp only[dc]at h58
    have hb : sm X Y W = false := by simpa using h58
    refine .q ?_ (by simp (disch := first|omega|(simp only[ln];omega)) [h2, hB]; rfl)
    refine .ret ?_
    exact hK _ _ _ _ trivial ((Fin.mk (by simp (disch := omega) [aRes, aResL, aRes1, h2]; rfl)).cast (by rw [eP, eB, pt3, hb]; rfl))
   ·try simp only[dc]at h58
    have hb : sm X Y W = true := by simpa using h58
    refine .skip ?_
    refine hK10 _ ?_
    refine .q ?_
    refine .sq fun K18 hK18 => ?_
    refine .region ?_
    refine .kf 1 w1 hb107 ?_
    refine .e ?_
    refine hK18 _ ?_
    refine .sq fun K19 hK19 => ?_
    refine .region ?_
    refine .kf 1 w2 hb107 ?_
    refine .e ?_
    refine hK19 _ ?_
    refine .sq fun K20 hK20 => ?_
    refine .region ?_
    refine .kf 1 w3 hb107 ?_
    refine .e ?_
    refine hK20 _ ?_
    refine .q ?_ (by simp (disch := first|omega|(simp only[ln];omega)) [h2, hB]; rfl)
    refine .ret ?_
    exact hK _ _ _ _ trivial ((Fin.mk (by simp (disch := omega) [aRes, aResL, aRes1, h2]; rfl)).cast (by rw [eP, eB, pt3, if_pos hb, hb]))
  refine .q ?_
  refine .c (t := decide (w < 0)) (fun h27 => ?_) (fun h27 => ?_)
  ·try simp only[dc]at h27
   refine .region ?_
   refine .kf 1 (minus_fc bG (by omega)) hb168 ?_
   refine .e ?_
   refine J6 _ ?_
   exact ⟨-g, by simp [h27], by simp, by simp, by simp, by simp, by simp (disch := omega), by simp (disch := omega), by simp (disch := omega), by simp, rfl⟩
  ·try simp only[dc]at h27
   refine .skip ?_
   refine J6 _ ?_
   exact ⟨g, by simp [h27], by simp, by simp, by simp, by simp, by simp (disch := omega), by simp (disch := omega), by simp (disch := omega), by simp, rfl⟩
end
section
attribute [local simp] idf_numI cells_numI numI_fold
theorem none_fc  : FC Try.prog 133 [] (.tup [.int .i64 0, .agg [.int .u64 (pt0).x.a, .int .u64 (pt0).x.b, .int .u64 (pt0).x.c, .int .u64 (pt0).x.d, .int .u64 (pt0).y.a, .int .u64 (pt0).y.b, .int .u64 (pt0).y.c, .int .u64 (pt0).y.d, .int .u64 (pt0).w.a, .int .u64 (pt0).w.b, .int .u64 (pt0).w.c, .int .u64 (pt0).w.d], .agg [.int .u64 (pt0).x.a, .int .u64 (pt0).x.b, .int .u64 (pt0).x.c, .int .u64 (pt0).x.d, .int .u64 (pt0).y.a, .int .u64 (pt0).y.b, .int .u64 (pt0).y.c, .int .u64 (pt0).y.d, .int .u64 (pt0).w.a, .int .u64 (pt0).w.b, .int .u64 (pt0).w.c, .int .u64 (pt0).w.d]]) := by
 refine .b Try.func133 5 (fun nx K hK => ?_)
 refine .q ?_
 refine .q ?_
 refine .ret ?_
 exact hK _ _ _ _ trivial ((Fin.m).cast (by rfl))
end

end Go.Proofs.Ytdcajfgeleopiaa

/- Walks: where segments meet, by the program (2). -/
namespace Go.Proofs.Ytdcajfgeleopiaa
open Go Go.RowKit
set_option linter.unusedSimpArgs false
set_option linter.unusedVariables false
set_option maxRecDepth 100000
attribute [local simp] szT2 byT2 agT2 unT2 zoT2 szT3 byT3 agT3 unT3 zoT3 szT4 byT4 agT4 unT4 zoT4 szT26 byT26 agT26 flT26 fdT26_0 fdT26_1 fdT26_2 fdT26_3 zoT26 szT51 byT51 agT51 flT51 fdT51_0 fdT51_1 fdT51_2 zoT51 szT87 byT87 agT87 elT87 unT87 zoT87 szT89 byT89 agT89 flT89 fdT89_0 fdT89_1 zoT89 szT102 byT102 agT102 flT102 fdT102_0 fdT102_1 zoT102 szT104 byT104 agT104 flT104 fdT104_0 fdT104_1 zoT104 szT116 byT116 agT116 flT116 fdT116_0 fdT116_1 fdT116_2 zoT116

theorem hbNone : hasBody Try.prog 133 = true := by kernel_rfl
theorem mul_sg (a b : Int) : -1 ≤ sg3 a * sg3 b ∧ sg3 a * sg3 b ≤ 1 := by
  have := sg3_b a; have := sg3_b b
  have := mul_b (u := sg3 a) (v := sg3 b) (m := 1) (n := 1) (by omega) (by omega) (by omega) (by omega) (by omega)
  omega
theorem lsS_dec2 (p q : Sp) : decide (0 < cmS p q) = lsS q p := by rw [Bool.eq_iff_iff, decide_eq_true_eq]; exact cmS_pos
theorem cmS_deq (p q : Sp) : (cmS p q == 0) = decide (p = q) := by rw [Bool.eq_iff_iff, beq_iff_eq, decide_eq_true_eq]; exact cmS_zero

section
attribute [local simp] idf_numI cells_numI numI_fold Sp.av Sp.cells Sg.av Sg.cells spA spC
set_option maxHeartbeats 8000000 in
theorem meetI_fc (u v : Sg) (gu : u.good = true) (gv : v.good = true) : FC Try.prog 87 [u.av, v.av] (.tup [.int .i64 (meetI u v).1, .agg [.int .u64 ((meetI u v).2.1).x.a, .int .u64 ((meetI u v).2.1).x.b, .int .u64 ((meetI u v).2.1).x.c, .int .u64 ((meetI u v).2.1).x.d, .int .u64 ((meetI u v).2.1).y.a, .int .u64 ((meetI u v).2.1).y.b, .int .u64 ((meetI u v).2.1).y.c, .int .u64 ((meetI u v).2.1).y.d, .int .u64 ((meetI u v).2.1).w.a, .int .u64 ((meetI u v).2.1).w.b, .int .u64 ((meetI u v).2.1).w.c, .int .u64 ((meetI u v).2.1).w.d], .agg [.int .u64 ((meetI u v).2.2).x.a, .int .u64 ((meetI u v).2.2).x.b, .int .u64 ((meetI u v).2.2).x.c, .int .u64 ((meetI u v).2.2).x.d, .int .u64 ((meetI u v).2.2).y.a, .int .u64 ((meetI u v).2.2).y.b, .int .u64 ((meetI u v).2.2).y.c, .int .u64 ((meetI u v).2.2).y.d, .int .u64 ((meetI u v).2.2).w.a, .int .u64 ((meetI u v).2.2).w.b, .int .u64 ((meetI u v).2.2).w.c, .int .u64 ((meetI u v).2.2).w.d]]) := by
 have ua := good_a gu
 have ub := good_b gu
 have va := good_a gv
 have vb := good_b gv
 have pua := Sp.b ua
 have pub := Sp.b ub
 have pva := Sp.b va
 have pvb := Sp.b vb
 obtain ⟨A, hA⟩ : ∃ A, crs u.a u.b v.a = A := ⟨_, rfl⟩
 obtain ⟨B, hB⟩ : ∃ B, crs u.a u.b v.b = B := ⟨_, rfl⟩
 obtain ⟨C, hC⟩ : ∃ C, crs v.a v.b u.a = C := ⟨_, rfl⟩
 obtain ⟨D, hD⟩ : ∃ D, crs v.a v.b u.b = D := ⟨_, rfl⟩
 have cA := cross_fc u.a u.b v.a ua ub va
 have cB := cross_fc u.a u.b v.b ua ub vb
 have cC := cross_fc v.a v.b u.a va vb ua
 have cD := cross_fc v.a v.b u.b va vb ub
 have bA := crs_b ua ub va
 have bB := crs_b ua ub vb
 rw [hA] at cA bA
 rw [hB] at cB bB
 rw [hC] at cC
 rw [hD] at cD
 have hnw : noWay u v = (decide (0 < sg3 A * sg3 B) || decide (0 < sg3 C * sg3 D)) := by unfold noWay; rw [hA, hB, hC, hD]
 have hmt : apart u v = true → meetI u v = (0, pt0, pt0) := fun h => by unfold meetI; rw [if_pos h]
 have hmf : apart u v = false → meetI u v = if A = 0 ∧ B = 0 then linP u v else if noWay u v = true then (0, pt0, pt0) else (1, mkP (wayX u v) (wayY u v) (wayW u v), pt0) := fun h => by unfold meetI; rw [h, hA, hB]; rfl
 have hap : apart u v = (decide (mn u.b.x v.b.x < mx u.a.x v.a.x) || decide (mn (mx u.a.y u.b.y) (mx v.a.y v.b.y) < mx (mn u.a.y u.b.y) (mn v.a.y v.b.y))) := rfl
 have eW : wayW u v = A - B := by unfold wayW; rw [hA, hB]
 have eX : wayX u v = v.a.x * (A - B) + A * (v.b.x - v.a.x) := by unfold wayX; rw [eW, hA]
 have eY : wayY u v = v.a.y * (A - B) + A * (v.b.y - v.a.y) := by unfold wayY; rw [eW, hA]
 have sAB := mul_sg A B
 have sCD := mul_sg C D
 clear hA hB hC hD
 refine .b Try.func87 215 (fun nx K hK => ?_) (hi := by simp [idfL, idf, Sp.av, Sp.cells, Sg.av, Sg.cells])
 refine .q ?_
 refine .q ?_
 refine .sq fun K3 hK3 => ?_
 refine .sq fun K4 hK4 => ?_
 cases q1 : decide (mn u.b.x v.b.x < mx u.a.x v.a.x)
 ·refine .r ?_ (by simp (disch := first|omega|(simp only[ln];omega)) [mx_fold, mn_fold, q1]; rfl)
  refine hK4 _ ?_
  refine .c (t := decide (mn (mx u.a.y u.b.y) (mx v.a.y v.b.y) < mx (mn u.a.y u.b.y) (mn v.a.y v.b.y))) (fun h67 => ?_) (fun h67 => ?_)
  ·try simp only[dc]at h67
   have hm := hmt (by rw [hap, decide_eq_true h67]; simp)
   refine .sq fun K5 hK5 => ?_
   refine .region ?_
   refine .k 1 ?_
   refine AOPS.fcall (none_fc) rfl rfl (by simp; rfl) hbNone (by simp (disch := first|omega|(simp only[ln];omega)) [idf_Wd']) (by simp (disch := first|omega|(simp only[ln];omega))) (by simp) ?_
   simp only [puts_some, updo]
   refine .e ?_
   refine hK5 _ ?_
   refine .ret ?_
   exact hK _ _ _ _ trivial ((Fin.m).cast (by rw [hm]; try rfl))
  ·try simp only[dc]at h67
   have hm := hmf (by rw [hap, q1, decide_eq_false h67]; rfl)
   refine .skip ?_
   refine hK3 _ ?_
   refine .sq fun K6 hK6 => ?_
   refine .d 14 ?_
   refine .k 6 (fun fs7 hfs7 => ?_)
   refine .f cA hb134 ?_
   refine .k 6 (fun fs8 hfs8 => ?_)
   refine .f cB hb134 ?_
   refine .r 14 (by simp only[ln, hfs7, hfs8];omega) ?_
   refine hK6 _ ?_
   refine .sq fun K9 hK9 => ?_
   refine .sq fun K10 hK10 => ?_
   by_cases hA0 : A = 0
   ·have c1 : (A == 0) = true := by simp [hA0]
    by_cases hB0 : B = 0
    ·have c2 : (B == 0) = true := by simp [hB0]
     have hm' := hm
     rw [if_pos ⟨hA0, hB0⟩] at hm'
     refine .r ?_ (by simp (disch := first|omega|(simp only[ln];omega)) [c1, c2]; rfl)
     refine hK10 _ ?_
     refine .c (fun h92 => ?_) (fun h92 => ?_)
     ·try simp only[dc]at h92
      refine .sq fun K11 hK11 => ?_
      refine .old fun hold => ?_
      refine .d 6 ?_
      refine .k 2 (fun fs12 hfs12 => ?_)
      refine DP.runF1q (by simp (disch := first|omega|(simp only[ln];omega)) [runDf.eq_def, runF1, runF2, stepF.eq_def, updo.eq_def, hupo.eq_def, opSto1.eq_def]; rfl) fun fq13 hfq13 => ?_
      simp [qids, asksB, Op.operands, topId] at hfq13
      simp only [updo]
      refine DP.runF1q (by simp (disch := first|omega|(simp only[ln];omega)) [runDf.eq_def, runF1, runF2, stepF.eq_def, updo.eq_def, hupo.eq_def, opSto1.eq_def]; rfl) fun fq14 hfq14 => ?_
      simp [qids, asksB, Op.operands, topId] at hfq14
      simp only [updo]
      refine .k 2 (fun fs15 hfs15 => ?_)
      refine DQ.sto1 (m := 6) [2, 3] _ (by simp (disch := first|omega|(simp only[ln];omega)) [runDf.eq_def, runF1, runF2, stepF.eq_def, updo.eq_def, hupo.eq_def, opSto1.eq_def]; rfl) rfl (by simp only[ln, hfs12, hfs15];omega) (by kernel_rfl) (by intro k f hk hex; simp only [List.mem_cons, List.not_mem_nil, or_false] at hex; rcases hex with rfl | rfl <;> (simp [List.getElem?_append, hfs12, hfs15] at hk; subst hk; refine ⟨?_, by first | omega | (simp; done) | (simp; omega)⟩; simp [qids, asksB, Op.operands, Call.operands, topId, numS, numI, Wd, hfq13, hfq14]; try omega)) ?_
      try simp only []
      refine DQ.sto1 (m := 6) [] _ (by simp (disch := first|omega|(simp only[ln];omega)) [runDf.eq_def, runF1, runF2, stepF.eq_def, updo.eq_def, hupo.eq_def, opSto1.eq_def]; rfl) rfl (by simp only[ln, hfs12, hfs15];omega) (by kernel_rfl) (by intro k f hk hex; simp only [List.not_mem_nil] at hex) ?_
      try simp only []
      refine hK11 _ ?_
      refine .sq fun K16 hK16 => ?_
      have J16 : ∀ s : St, (∃ (lo hi : Sp) (ia ib : Nat), lo = lowS u v ∧ hi = u.b ∧ s.env 2 = .ptr nx 0 0 ∧ s.env 3 = .ptr (nx + 1) 0 0 ∧ s.env 5 = .ptr (nx + 1 + 1) 0 0 ∧ s.env 6 = .ptr (nx + 1 + 1 + 1) 0 0 ∧ s.env 7 = .fn 133 [] ∧ s.env 10 = .ptr ia 0 0 ∧ s.env 11 = .ptr ib 0 0 ∧ s.heap nx = some (4, [[.int .i64 u.a.x, .int .i64 u.a.y, .int .i64 u.b.x, .int .i64 u.b.y]]) ∧ s.heap (nx + 1) = some (4, [[.int .i64 v.a.x, .int .i64 v.a.y, .int .i64 v.b.x, .int .i64 v.b.y]]) ∧ s.heap (nx + 1 + 1) = some (12, [[.int .u64 0, .int .u64 0, .int .u64 0, .int .u64 0, .int .u64 0, .int .u64 0, .int .u64 0, .int .u64 0, .int .u64 0, .int .u64 0, .int .u64 0, .int .u64 0]]) ∧ s.heap (nx + 1 + 1 + 1) = some (12, [[.int .u64 0, .int .u64 0, .int .u64 0, .int .u64 0, .int .u64 0, .int .u64 0, .int .u64 0, .int .u64 0, .int .u64 0, .int .u64 0, .int .u64 0, .int .u64 0]]) ∧ s.heap ia = some (2, [[.int .i64 lo.x, .int .i64 lo.y]]) ∧ s.heap ib = some (2, [[.int .i64 hi.x, .int .i64 hi.y]]) ∧ (nx + 1 + 1 + 1) < ia ∧ ia < ib ∧ ib < s.nx ∧ s.nt = 215) → K16 s := by
       rintro ⟨e, H, mm, nt⟩ ⟨lo, hi, ia, ib, hlo, hhi, g2, g3, g5, g6, g7, g10, g11, hU, hV, hP, hQ, hL, hH, hia, hib, hm, rfl⟩
       simp only [] at g2 g3 g5 g6 g7 g10 g11 hU hV hP hQ hL hH hia hib hm
       rw [hhi] at hH
       clear hhi hi
       refine hK16 _ ?_
       refine .sq fun K17 hK17 => ?_
       have J17 : ∀ s : St, (∃ (lo hi : Sp) (ia ib : Nat), lo = lowS u v ∧ hi = highS u v ∧ s.env 2 = .ptr nx 0 0 ∧ s.env 3 = .ptr (nx + 1) 0 0 ∧ s.env 5 = .ptr (nx + 1 + 1) 0 0 ∧ s.env 6 = .ptr (nx + 1 + 1 + 1) 0 0 ∧ s.env 7 = .fn 133 [] ∧ s.env 10 = .ptr ia 0 0 ∧ s.env 11 = .ptr ib 0 0 ∧ s.heap nx = some (4, [[.int .i64 u.a.x, .int .i64 u.a.y, .int .i64 u.b.x, .int .i64 u.b.y]]) ∧ s.heap (nx + 1) = some (4, [[.int .i64 v.a.x, .int .i64 v.a.y, .int .i64 v.b.x, .int .i64 v.b.y]]) ∧ s.heap (nx + 1 + 1) = some (12, [[.int .u64 0, .int .u64 0, .int .u64 0, .int .u64 0, .int .u64 0, .int .u64 0, .int .u64 0, .int .u64 0, .int .u64 0, .int .u64 0, .int .u64 0, .int .u64 0]]) ∧ s.heap (nx + 1 + 1 + 1) = some (12, [[.int .u64 0, .int .u64 0, .int .u64 0, .int .u64 0, .int .u64 0, .int .u64 0, .int .u64 0, .int .u64 0, .int .u64 0, .int .u64 0, .int .u64 0, .int .u64 0]]) ∧ s.heap ia = some (2, [[.int .i64 lo.x, .int .i64 lo.y]]) ∧ s.heap ib = some (2, [[.int .i64 hi.x, .int .i64 hi.y]]) ∧ (nx + 1 + 1 + 1) < ia ∧ ia < ib ∧ ib < s.nx ∧ s.nt = 215) → K17 s := by
        clear g2 g3 g5 g6 g7 g10 g11 hU hV hP hQ hL hH hia hib hm hlo lo
        rintro ⟨e, H, mm, nt⟩ ⟨lo, hi, ia, ib, hlo, hhi, g2, g3, g5, g6, g7, g10, g11, hU, hV, hP, hQ, hL, hH, hia, hib, hm, rfl⟩
        simp only [] at g2 g3 g5 g6 g7 g10 g11 hU hV hP hQ hL hH hia hib hm
        have gl : lo.good = true := by rw [hlo]; unfold lowS; split; exact va; exact ua
        have gh : hi.good = true := by rw [hhi]; unfold highS; split; exact vb; exact ub
        have hli : linP u v = if lsS hi lo = true then (0, pt0, pt0) else if lo = hi then (1, ptS lo, pt0) else (2, ptS lo, ptS hi) := by rw [hlo, hhi]; rfl
        clear hlo hhi
        refine hK17 _ ?_
        refine .sq fun K18 hK18 => ?_
        refine .sq fun K19 hK19 => ?_
        refine .region ?_
        refine .kf 2 (cmpSpots_fc lo hi) hb94 ?_ (by simp (disch := first|omega|(simp only[ln];omega)) [List.take_succ_cons, List.take_zero, g2, g3, g5, g6, g7, g10, g11, hU, hV, hP, hQ, hL, hH]; rfl) (ha := by simp (disch := first|omega|(simp only[ln];omega)) [idf_Wd', g2, g3, g5, g6, g7, g10, g11, hU, hV, hP, hQ, hL, hH])
        refine .e ?_ (by simp (disch := first|omega|(simp only[ln];omega)) [g2, g3, g5, g6, g7, g10, g11, hU, hV, hP, hQ, hL, hH]; rfl)
        refine hK19 _ ?_
        refine .block ?_
        refine .q ?_
        refine .c (t := lsS hi lo) (fun h114 => ?_) (fun h114 => ?_) (by simp (disch := first|omega|(simp only[ln];omega)) [lsS_dec2])
        ·try simp only[dc]at h114
         refine .sq fun K21 hK21 => ?_
         refine .region ?_
         refine .k 1 ?_ (by simp (disch := first|omega|(simp only[ln];omega)) [List.take_succ_cons, List.take_zero, g2, g3, g5, g6, g7, g10, g11, hU, hV, hP, hQ, hL, hH]; rfl)
         refine AOPS.fcall (none_fc) rfl rfl (by simp; rfl) hbNone (by simp (disch := first|omega|(simp only[ln];omega)) [idf_Wd', g2, g3, g5, g6, g7, g10, g11, hU, hV, hP, hQ, hL, hH]) (by simp (disch := first|omega|(simp only[ln];omega)) [g2, g3, g5, g6, g7, g10, g11, hU, hV, hP, hQ, hL, hH]) (by simp) ?_
         simp only [puts_some, updo]
         refine .e ?_ (by simp (disch := first|omega|(simp only[ln];omega)) [g2, g3, g5, g6, g7, g10, g11, hU, hV, hP, hQ, hL, hH]; rfl)
         refine hK21 _ ?_
         refine .ret ?_
         exact hK _ _ _ _ trivial ((Fin.mk (by simp (disch := omega) [aRes, aResL, aRes1, g5, g6]; rfl)).cast (by rw [hm', hli, if_pos h114]; try rfl))
        ·try simp only[dc]at h114
         refine .q ?_
         refine .c (t := decide (lo = hi)) (fun h122 => ?_) (fun h122 => ?_) (by simp (disch := first|omega|(simp only[ln];omega)) [cmS_deq])
         ·try simp only[dc]at h122
          refine .sq fun K23 hK23 => ?_
          refine .region ?_
          refine .kf 1 (pointOfI_fc lo gl) hb135 ?_ (by simp (disch := first|omega|(simp only[ln];omega)) [List.take_succ_cons, List.take_zero, g2, g3, g5, g6, g7, g10, g11, hU, hV, hP, hQ, hL, hH]; rfl) (ha := by simp (disch := first|omega|(simp only[ln];omega)) [idf_Wd', g2, g3, g5, g6, g7, g10, g11, hU, hV, hP, hQ, hL, hH])
          refine .e ?_ (by simp (disch := first|omega|(simp only[ln];omega)) [g2, g3, g5, g6, g7, g10, g11, hU, hV, hP, hQ, hL, hH]; rfl)
          refine hK23 _ ?_
          refine .ret ?_
          exact hK _ _ _ _ trivial ((Fin.mk (by simp (disch := omega) [aRes, aResL, aRes1, g5, g6]; rfl)).cast (by rw [hm', hli, if_neg (by rw [h114]; simp), if_pos h122]; try rfl))
         ·try simp only[dc]at h122
          refine .skip ?_
          refine hK18 _ ?_
          refine .sq fun K24 hK24 => ?_
          refine .old fun hold => ?_
          refine .d 4 ?_
          refine .k 1 (fun fs25 hfs25 => ?_) (by simp (disch := first|omega|(simp only[ln];omega)) [runDf.eq_def, runF1, runF2, stepF.eq_def, updo.eq_def, hupo.eq_def, opSto1.eq_def, List.take_succ_cons, List.take_zero, g2, g3, g5, g6, g7, g10, g11, hU, hV, hP, hQ, hL, hH]; rfl)
          refine .f (pointOfI_fc lo gl) hb135 ?_ (ha := by simp (disch := first|omega|(simp only[ln];omega)) [idf_Wd', g2, g3, g5, g6, g7, g10, g11, hU, hV, hP, hQ, hL, hH])
          refine DP.runF1q (by simp (disch := first|omega|(simp only[ln];omega)) [runDf.eq_def, runF1, runF2, stepF.eq_def, updo.eq_def, hupo.eq_def, opSto1.eq_def, g2, g3, g5, g6, g7, g10, g11, hU, hV, hP, hQ, hL, hH]; rfl) fun fq26 hfq26 => ?_
          simp [qids, asksB, Op.operands, topId] at hfq26
          simp only [updo]
          refine .f (pointOfI_fc hi gh) hb135 ?_ (ha := by simp (disch := first|omega|(simp only[ln];omega)) [idf_Wd', g2, g3, g5, g6, g7, g10, g11, hU, hV, hP, hQ, hL, hH])
          refine DQ.asg1 _ rfl rfl ?_
          simp only [updo]
          refine DQ.sto1 (m := 4) [2, 3] _ (by simp (disch := first|omega|(simp only[ln];omega)) [runDf.eq_def, runF1, runF2, stepF.eq_def, updo.eq_def, hupo.eq_def, opSto1.eq_def, g2, g3, g5, g6, g7, g10, g11, hU, hV, hP, hQ, hL, hH]; rfl) rfl (by simp only[ln, hfs25];omega) (by kernel_rfl) (by intro k f hk hex; simp only [List.mem_cons, List.not_mem_nil, or_false] at hex; rcases hex with rfl | rfl <;> (simp [List.getElem?_append, hfs25] at hk; subst hk; refine ⟨?_, by first | omega | (simp; done) | (simp; omega)⟩; simp [qids, asksB, Op.operands, Call.operands, topId, numS, numI, Wd, hfq26, g2, g3, g5, g6, g7, g10, g11]; try omega)) ?_
          try simp only []
          refine DQ.sto1 (m := 4) [] _ (by simp (disch := first|omega|(simp only[ln];omega)) [runDf.eq_def, runF1, runF2, stepF.eq_def, updo.eq_def, hupo.eq_def, opSto1.eq_def, g2, g3, g5, g6, g7, g10, g11, hU, hV, hP, hQ, hL, hH]; rfl) rfl (by simp only[ln, hfs25];omega) (by kernel_rfl) (by intro k f hk hex; simp only [List.not_mem_nil] at hex) ?_
          try simp only []
          refine hK24 _ ?_
          refine .ret ?_
          exact hK _ _ _ _ trivial ((Fin.mk (by simp (disch := omega) [aRes, aResL, aRes1, g5, g6]; rfl)).cast (by rw [hm', hli, if_neg (by rw [h114]; simp), if_neg h122]; try rfl))
       refine .sq fun K27 hK27 => ?_
       refine .region ?_
       refine .kf 3 (cmpSpots_fc v.b u.b) hb94 ?_ (by simp (disch := first|omega|(simp only[ln];omega)) [List.take_succ_cons, List.take_zero, g2, g3, g5, g6, g7, g10, g11, hU, hV, hP, hQ, hL, hH]; rfl) (ha := by simp (disch := first|omega|(simp only[ln];omega)) [idf_Wd', g2, g3, g5, g6, g7, g10, g11, hU, hV, hP, hQ, hL, hH])
       refine .e ?_ (by simp (disch := first|omega|(simp only[ln];omega)) [g2, g3, g5, g6, g7, g10, g11, hU, hV, hP, hQ, hL, hH]; rfl)
       refine hK27 _ ?_
       refine .c (t := lsS v.b u.b) (fun h108 => ?_) (fun h108 => ?_) (by simp (disch := first|omega|(simp only[ln];omega)) [lsS_dec])
       ·try simp only[dc]at h108
        refine .r ?_ (by simp (disch := first|omega|(simp only[ln];omega)) [g2, g3, g5, g6, g7, g10, g11, hU, hV, hP, hQ, hL, hH]; rfl)
        refine J17 _ ?_
        exact ⟨lo, v.b, ia, ib, hlo, by unfold highS; rw [if_pos h108], by first | (simp; done) | (simp [g2, g3, g5, g6, g7, g10, g11]; done), by first | (simp; done) | (simp [g2, g3, g5, g6, g7, g10, g11]; done), by first | (simp; done) | (simp [g2, g3, g5, g6, g7, g10, g11]; done), by first | (simp; done) | (simp [g2, g3, g5, g6, g7, g10, g11]; done), by first | (simp; done) | (simp [g2, g3, g5, g6, g7, g10, g11]; done), by first | (simp; done) | (simp [g2, g3, g5, g6, g7, g10, g11]; done), by first | (simp; done) | (simp [g2, g3, g5, g6, g7, g10, g11]; done), by first | (simp (disch := omega); done) | (simp (disch := omega) [hU, hV, hP, hQ, hL, hH]; done), by first | (simp (disch := omega); done) | (simp (disch := omega) [hU, hV, hP, hQ, hL, hH]; done), by first | (simp (disch := omega); done) | (simp (disch := omega) [hU, hV, hP, hQ, hL, hH]; done), by first | (simp (disch := omega); done) | (simp (disch := omega) [hU, hV, hP, hQ, hL, hH]; done), by first | (simp (disch := omega); done) | (simp (disch := omega) [hU, hV, hP, hQ, hL, hH]; done), by first | (simp (disch := omega); done) | (simp (disch := omega) [hU, hV, hP, hQ, hL, hH]; done), by omega, by omega, by first | omega | (simp; done) | (simp; omega), rfl⟩
       ·try simp only[dc]at h108
        refine .skip ?_
        refine J17 _ ?_
        exact ⟨lo, u.b, ia, ib, hlo, by unfold highS; rw [h108]; rfl, by first | (simp; done) | (simp [g2, g3, g5, g6, g7, g10, g11]; done), by first | (simp; done) | (simp [g2, g3, g5, g6, g7, g10, g11]; done), by first | (simp; done) | (simp [g2, g3, g5, g6, g7, g10, g11]; done), by first | (simp; done) | (simp [g2, g3, g5, g6, g7, g10, g11]; done), by first | (simp; done) | (simp [g2, g3, g5, g6, g7, g10, g11]; done), by first | (simp; done) | (simp [g2, g3, g5, g6, g7, g10, g11]; done), by first | (simp; done) | (simp [g2, g3, g5, g6, g7, g10, g11]; done), by first | (simp (disch := omega); done) | (simp (disch := omega) [hU, hV, hP, hQ, hL, hH]; done), by first | (simp (disch := omega); done) | (simp (disch := omega) [hU, hV, hP, hQ, hL, hH]; done), by first | (simp (disch := omega); done) | (simp (disch := omega) [hU, hV, hP, hQ, hL, hH]; done), by first | (simp (disch := omega); done) | (simp (disch := omega) [hU, hV, hP, hQ, hL, hH]; done), by first | (simp (disch := omega); done) | (simp (disch := omega) [hU, hV, hP, hQ, hL, hH]; done), by first | (simp (disch := omega); done) | (simp (disch := omega) [hU, hV, hP, hQ, hL, hH]; done), by omega, by omega, by first | omega | (simp; done) | (simp; omega), rfl⟩
      refine .sq fun K28 hK28 => ?_
      refine .region ?_
      refine .kf 3 (cmpSpots_fc v.a u.a) hb94 ?_
      refine .e ?_
      refine hK28 _ ?_
      refine .c (t := lsS u.a v.a) (fun h101 => ?_) (fun h101 => ?_) (by simp (disch := first|omega|(simp only[ln];omega)) [lsS_dec2])
      ·try simp only[dc]at h101
       refine .r ?_
       refine J16 _ ?_
       exact ⟨v.a, u.b, (nx + 1 + 1 + 1 + 1) + 16 + 4, (nx + 1 + 1 + 1 + 1) + 16 + 5, by unfold lowS; rw [if_pos h101], rfl, by simp, by simp, by simp, by simp, by simp, by simp, by simp, by simp (disch := omega), by simp (disch := omega), by simp (disch := omega), by simp (disch := omega), by simp (disch := omega), by simp (disch := omega), by omega, by omega, by first | omega | (simp; done) | (simp; omega), rfl⟩
      ·try simp only[dc]at h101
       refine .skip ?_
       refine J16 _ ?_
       exact ⟨u.a, u.b, (nx + 1 + 1 + 1 + 1) + 16 + 4, (nx + 1 + 1 + 1 + 1) + 16 + 5, by unfold lowS; rw [h101]; rfl, rfl, by simp, by simp, by simp, by simp, by simp, by simp, by simp, by simp (disch := omega), by simp (disch := omega), by simp (disch := omega), by simp (disch := omega), by simp (disch := omega), by simp (disch := omega), by omega, by omega, by first | omega | (simp; done) | (simp; omega), rfl⟩
     ·simp at h92
    ·have c2 : (B == 0) = false := by simp [hB0]
     have hm' := hm
     rw [if_neg (fun h => hB0 h.2)] at hm'
     refine .r ?_ (by simp (disch := first|omega|(simp only[ln];omega)) [c1, c2]; rfl)
     refine hK10 _ ?_
     refine .c (fun h92 => ?_) (fun h92 => ?_)
     ·simp at h92
     ·try simp only[dc]at h92
      refine .skip ?_
      refine hK9 _ ?_
      refine .sq fun K29 hK29 => ?_
      refine .d 14 ?_
      refine .k 6 (fun fs30 hfs30 => ?_)
      refine .f cC hb134 ?_
      refine .k 6 (fun fs31 hfs31 => ?_)
      refine .f cD hb134 ?_
      refine .r 14 (by simp only[ln, hfs30, hfs31];omega) ?_
      refine hK29 _ ?_
      refine .sq fun K32 hK32 => ?_
      refine .sq fun K33 hK33 => ?_
      cases q3 : decide (0 < sg3 A * sg3 B)
      ·refine .region ?_
       refine .kf 1 (signI_fc A) hb136 ?_ (by simp (disch := first|omega|(simp only[ln];omega)) [List.take_succ_cons, List.take_zero, q3]; rfl) (ha := by simp (disch := first|omega|(simp only[ln];omega)) [idf_Wd', q3])
       refine .kf 1 (signI_fc B) hb136 ?_ (by simp (disch := first|omega|(simp only[ln];omega)) [List.take_succ_cons, List.take_zero, q3]; rfl) (ha := by simp (disch := first|omega|(simp only[ln];omega)) [idf_Wd', q3])
       refine .kf 4 (signI_fc C) hb136 ?_ (by simp (disch := first|omega|(simp only[ln];omega)) [List.take_succ_cons, List.take_zero, q3]; rfl) (ha := by simp (disch := first|omega|(simp only[ln];omega)) [idf_Wd', q3])
       refine .kf 1 (signI_fc D) hb136 ?_ (by simp (disch := first|omega|(simp only[ln];omega)) [List.take_succ_cons, List.take_zero, q3]; rfl) (ha := by simp (disch := first|omega|(simp only[ln];omega)) [idf_Wd', q3])
       refine .e ?_ (by simp (disch := first|omega|(simp only[ln];omega)) [q3]; rfl)
       refine hK33 _ ?_
       refine .c (t := decide (0 < sg3 C * sg3 D)) (fun h159 => ?_) (fun h159 => ?_)
       ·try simp only[dc]at h159
        have hw : noWay u v = true := by rw [hnw, q3]; simp [h159]
        refine .sq fun K34 hK34 => ?_
        refine .region ?_
        refine .k 1 ?_
        refine AOPS.fcall (none_fc) rfl rfl (by simp; rfl) hbNone (by simp (disch := first|omega|(simp only[ln];omega)) [idf_Wd']) (by simp (disch := first|omega|(simp only[ln];omega))) (by simp) ?_
        simp only [puts_some, updo]
        refine .e ?_
        refine hK34 _ ?_
        refine .ret ?_
        exact hK _ _ _ _ trivial ((Fin.m).cast (by rw [hm', if_pos hw]; try rfl))
       ·try simp only[dc]at h159
        have hw : ¬ noWay u v = true := by rw [hnw, q3]; simp; omega
        have b1 : Bg 1 v.a.x := Bg.i64 (by omega) (by omega)
        have b2 : Bg 1 v.a.y := Bg.i64 (by omega) (by omega)
        have b3 : Bg 1 A := Bg.i64 (by omega) (by omega)
        have b4 : Bg 1 (A - B) := Bg.i64 (by omega) (by omega)
        have b5 : Bg 1 (v.b.x - v.a.x) := Bg.i64 (by omega) (by omega)
        have b6 : Bg 1 (v.b.y - v.a.y) := Bg.i64 (by omega) (by omega)
        refine .skip ?_
        refine hK32 _ ?_
        refine .sq fun K35 hK35 => ?_
        refine .region ?_
        refine .kf 3 (whole_fc (A - B) (by omega) (by omega)) hb62 ?_
        refine .e ?_
        refine hK35 _ ?_
        refine .sq fun K36 hK36 => ?_
        refine .d 19 ?_
        refine .k 3 (fun fs37 hfs37 => ?_)
        refine .f (whole_fc v.a.x (by omega) (by omega)) hb62 ?_
        refine .k 1 (fun fs38 hfs38 => ?_)
        refine .f (by_fc b1 b4 (by omega) (by omega)) hb137 ?_
        refine .k 1 (fun fs39 hfs39 => ?_)
        refine .f (whole_fc A (by omega) (by omega)) hb62 ?_
        refine .k 7 (fun fs40 hfs40 => ?_)
        refine .f (whole_fc (v.b.x - v.a.x) (by omega) (by omega)) hb62 ?_
        refine .f (by_fc b3 b5 (by omega) (by omega)) hb137 ?_
        refine .f (plus_fc (b1.mul b4) (b3.mul b5) (by omega) (by omega)) hb138 ?_
        refine .k 1 (fun fs41 hfs41 => ?_)
        refine .r 19 (by simp only[ln, hfs37, hfs38, hfs39, hfs40, hfs41];omega) ?_
        refine hK36 _ ?_
        refine .sq fun K42 hK42 => ?_
        refine .d 19 ?_
        refine .k 3 (fun fs43 hfs43 => ?_)
        refine .f (whole_fc v.a.y (by omega) (by omega)) hb62 ?_
        refine .k 1 (fun fs44 hfs44 => ?_)
        refine .f (by_fc b2 b4 (by omega) (by omega)) hb137 ?_
        refine .k 1 (fun fs45 hfs45 => ?_)
        refine .f (whole_fc A (by omega) (by omega)) hb62 ?_
        refine .k 7 (fun fs46 hfs46 => ?_)
        refine .f (whole_fc (v.b.y - v.a.y) (by omega) (by omega)) hb62 ?_
        refine .f (by_fc b3 b6 (by omega) (by omega)) hb137 ?_
        refine .f (plus_fc (b2.mul b4) (b3.mul b6) (by omega) (by omega)) hb138 ?_
        refine .k 1 (fun fs47 hfs47 => ?_)
        refine .r 19 (by simp only[ln, hfs43, hfs44, hfs45, hfs46, hfs47];omega) ?_
        refine hK42 _ ?_
        refine .sq fun K48 hK48 => ?_
        refine .region ?_
        refine .kf 4 (spotPoint_fc (j := 3) (v.a.x * (A - B) + A * (v.b.x - v.a.x)) (v.a.y * (A - B) + A * (v.b.y - v.a.y)) (A - B) (((b1.mul b4).add (b3.mul b5)).le (by omega)) (((b2.mul b4).add (b3.mul b6)).le (by omega)) (b4.le (by omega)) (by omega)) hb139 ?_
        refine .e ?_
        refine hK48 _ ?_
        refine .sq fun K49 hK49 => ?_
        refine .old fun hold => ?_
        refine .d 2 ?_
        refine .k 1 (fun fs50 hfs50 => ?_)
        refine DP.runF1q (by simp (disch := first|omega|(simp only[ln];omega)) [runDf.eq_def, runF1, runF2, stepF.eq_def, updo.eq_def, hupo.eq_def, opSto1.eq_def]; rfl) fun fq51 hfq51 => ?_
        simp [qids, asksB, Op.operands, topId] at hfq51
        simp only [updo]
        refine DQ.asg1 _ rfl rfl ?_
        simp only [updo]
        refine DQ.sto1 (m := 2) [1] _ (by simp (disch := first|omega|(simp only[ln];omega)) [runDf.eq_def, runF1, runF2, stepF.eq_def, updo.eq_def, hupo.eq_def, opSto1.eq_def]; rfl) rfl (by simp only[ln, hfs50];omega) (by kernel_rfl) (by intro k f hk hex; simp only [List.mem_cons, List.not_mem_nil, or_false] at hex; rcases hex with rfl <;> (simp [List.getElem?_append, hfs50] at hk; subst hk; refine ⟨?_, by first | omega | (simp; done) | (simp; omega)⟩; simp [qids, asksB, Op.operands, Call.operands, topId, numS, numI, Wd, hfq51]; try omega)) ?_
        try simp only []
        refine DQ.sto1 (m := 2) [] _ (by simp (disch := first|omega|(simp only[ln];omega)) [runDf.eq_def, runF1, runF2, stepF.eq_def, updo.eq_def, hupo.eq_def, opSto1.eq_def]; rfl) rfl (by simp only[ln, hfs50];omega) (by kernel_rfl) (by intro k f hk hex; simp only [List.not_mem_nil] at hex) ?_
        try simp only []
        refine hK49 _ ?_
        refine .ret ?_
        exact hK _ _ _ _ trivial ((Fin.m).cast (by rw [hm', if_neg hw, eX, eY, eW]; try rfl))
      ·refine .region ?_
       refine .kf 1 (signI_fc A) hb136 ?_ (by simp (disch := first|omega|(simp only[ln];omega)) [List.take_succ_cons, List.take_zero, q3]; rfl) (ha := by simp (disch := first|omega|(simp only[ln];omega)) [idf_Wd', q3])
       refine .kf 1 (signI_fc B) hb136 ?_ (by simp (disch := first|omega|(simp only[ln];omega)) [List.take_succ_cons, List.take_zero, q3]; rfl) (ha := by simp (disch := first|omega|(simp only[ln];omega)) [idf_Wd', q3])
       refine .e ?_ (by simp (disch := first|omega|(simp only[ln];omega)) [q3]; rfl)
       refine hK33 _ ?_
       refine .c (fun h159 => ?_) (fun h159 => ?_)
       ·try simp only[dc]at h159
        have hw : noWay u v = true := by rw [hnw, q3]; rfl
        refine .sq fun K52 hK52 => ?_
        refine .region ?_
        refine .k 1 ?_
        refine AOPS.fcall (none_fc) rfl rfl (by simp; rfl) hbNone (by simp (disch := first|omega|(simp only[ln];omega)) [idf_Wd']) (by simp (disch := first|omega|(simp only[ln];omega))) (by simp) ?_
        simp only [puts_some, updo]
        refine .e ?_
        refine hK52 _ ?_
        refine .ret ?_
        exact hK _ _ _ _ trivial ((Fin.m).cast (by rw [hm', if_pos hw]; try rfl))
       ·simp at h159
   ·have c1 : (A == 0) = false := by simp [hA0]
    have hm' := hm
    rw [if_neg (fun h => hA0 h.1)] at hm'
    refine .r ?_ (by simp (disch := first|omega|(simp only[ln];omega)) [c1]; rfl)
    refine hK10 _ ?_
    refine .c (fun h92 => ?_) (fun h92 => ?_)
    ·simp at h92
    ·try simp only[dc]at h92
     refine .skip ?_
     refine hK9 _ ?_
     refine .sq fun K53 hK53 => ?_
     refine .d 14 ?_
     refine .k 6 (fun fs54 hfs54 => ?_)
     refine .f cC hb134 ?_
     refine .k 6 (fun fs55 hfs55 => ?_)
     refine .f cD hb134 ?_
     refine .r 14 (by simp only[ln, hfs54, hfs55];omega) ?_
     refine hK53 _ ?_
     refine .sq fun K56 hK56 => ?_
     refine .sq fun K57 hK57 => ?_
     cases q3 : decide (0 < sg3 A * sg3 B)
     ·refine .region ?_
      refine .kf 1 (signI_fc A) hb136 ?_ (by simp (disch := first|omega|(simp only[ln];omega)) [List.take_succ_cons, List.take_zero, q3]; rfl) (ha := by simp (disch := first|omega|(simp only[ln];omega)) [idf_Wd', q3])
      refine .kf 1 (signI_fc B) hb136 ?_ (by simp (disch := first|omega|(simp only[ln];omega)) [List.take_succ_cons, List.take_zero, q3]; rfl) (ha := by simp (disch := first|omega|(simp only[ln];omega)) [idf_Wd', q3])
      refine .kf 4 (signI_fc C) hb136 ?_ (by simp (disch := first|omega|(simp only[ln];omega)) [List.take_succ_cons, List.take_zero, q3]; rfl) (ha := by simp (disch := first|omega|(simp only[ln];omega)) [idf_Wd', q3])
      refine .kf 1 (signI_fc D) hb136 ?_ (by simp (disch := first|omega|(simp only[ln];omega)) [List.take_succ_cons, List.take_zero, q3]; rfl) (ha := by simp (disch := first|omega|(simp only[ln];omega)) [idf_Wd', q3])
      refine .e ?_ (by simp (disch := first|omega|(simp only[ln];omega)) [q3]; rfl)
      refine hK57 _ ?_
      refine .c (t := decide (0 < sg3 C * sg3 D)) (fun h159 => ?_) (fun h159 => ?_)
      ·try simp only[dc]at h159
       have hw : noWay u v = true := by rw [hnw, q3]; simp [h159]
       refine .sq fun K58 hK58 => ?_
       refine .region ?_
       refine .k 1 ?_
       refine AOPS.fcall (none_fc) rfl rfl (by simp; rfl) hbNone (by simp (disch := first|omega|(simp only[ln];omega)) [idf_Wd']) (by simp (disch := first|omega|(simp only[ln];omega))) (by simp) ?_
       simp only [puts_some, updo]
       refine .e ?_
       refine hK58 _ ?_
       refine .ret ?_
       exact hK _ _ _ _ trivial ((Fin.m).cast (by rw [hm', if_pos hw]; try rfl))
      ·try simp only[dc]at h159
       have hw : ¬ noWay u v = true := by rw [hnw, q3]; simp; omega
       have b1 : Bg 1 v.a.x := Bg.i64 (by omega) (by omega)
       have b2 : Bg 1 v.a.y := Bg.i64 (by omega) (by omega)
       have b3 : Bg 1 A := Bg.i64 (by omega) (by omega)
       have b4 : Bg 1 (A - B) := Bg.i64 (by omega) (by omega)
       have b5 : Bg 1 (v.b.x - v.a.x) := Bg.i64 (by omega) (by omega)
       have b6 : Bg 1 (v.b.y - v.a.y) := Bg.i64 (by omega) (by omega)
       refine .skip ?_
       refine hK56 _ ?_
       refine .sq fun K59 hK59 => ?_
       refine .region ?_
       refine .kf 3 (whole_fc (A - B) (by omega) (by omega)) hb62 ?_
       refine .e ?_
       refine hK59 _ ?_
       refine .sq fun K60 hK60 => ?_
       refine .d 19 ?_
       refine .k 3 (fun fs61 hfs61 => ?_)
       refine .f (whole_fc v.a.x (by omega) (by omega)) hb62 ?_
       refine .k 1 (fun fs62 hfs62 => ?_)
       refine .f (by_fc b1 b4 (by omega) (by omega)) hb137 ?_
       refine .k 1 (fun fs63 hfs63 => ?_)
       refine .f (whole_fc A (by omega) (by omega)) hb62 ?_
       refine .k 7 (fun fs64 hfs64 => ?_)
       refine .f (whole_fc (v.b.x - v.a.x) (by omega) (by omega)) hb62 ?_
       refine .f (by_fc b3 b5 (by omega) (by omega)) hb137 ?_
       refine .f (plus_fc (b1.mul b4) (b3.mul b5) (by omega) (by omega)) hb138 ?_
       refine .k 1 (fun fs65 hfs65 => ?_)
       refine .r 19 (by simp only[ln, hfs61, hfs62, hfs63, hfs64, hfs65];omega) ?_
       refine hK60 _ ?_
       refine .sq fun K66 hK66 => ?_
       refine .d 19 ?_
       refine .k 3 (fun fs67 hfs67 => ?_)
       refine .f (whole_fc v.a.y (by omega) (by omega)) hb62 ?_
       refine .k 1 (fun fs68 hfs68 => ?_)
       refine .f (by_fc b2 b4 (by omega) (by omega)) hb137 ?_
       refine .k 1 (fun fs69 hfs69 => ?_)
       refine .f (whole_fc A (by omega) (by omega)) hb62 ?_
       refine .k 7 (fun fs70 hfs70 => ?_)
       refine .f (whole_fc (v.b.y - v.a.y) (by omega) (by omega)) hb62 ?_
       refine .f (by_fc b3 b6 (by omega) (by omega)) hb137 ?_
       refine .f (plus_fc (b2.mul b4) (b3.mul b6) (by omega) (by omega)) hb138 ?_
       refine .k 1 (fun fs71 hfs71 => ?_)
       refine .r 19 (by simp only[ln, hfs67, hfs68, hfs69, hfs70, hfs71];omega) ?_
       refine hK66 _ ?_
       refine .sq fun K72 hK72 => ?_
       refine .region ?_
       refine .kf 4 (spotPoint_fc (j := 3) (v.a.x * (A - B) + A * (v.b.x - v.a.x)) (v.a.y * (A - B) + A * (v.b.y - v.a.y)) (A - B) (((b1.mul b4).add (b3.mul b5)).le (by omega)) (((b2.mul b4).add (b3.mul b6)).le (by omega)) (b4.le (by omega)) (by omega)) hb139 ?_
       refine .e ?_
       refine hK72 _ ?_
       refine .sq fun K73 hK73 => ?_
       refine .old fun hold => ?_
       refine .d 2 ?_
       refine .k 1 (fun fs74 hfs74 => ?_)
       refine DP.runF1q (by simp (disch := first|omega|(simp only[ln];omega)) [runDf.eq_def, runF1, runF2, stepF.eq_def, updo.eq_def, hupo.eq_def, opSto1.eq_def]; rfl) fun fq75 hfq75 => ?_
       simp [qids, asksB, Op.operands, topId] at hfq75
       simp only [updo]
       refine DQ.asg1 _ rfl rfl ?_
       simp only [updo]
       refine DQ.sto1 (m := 2) [1] _ (by simp (disch := first|omega|(simp only[ln];omega)) [runDf.eq_def, runF1, runF2, stepF.eq_def, updo.eq_def, hupo.eq_def, opSto1.eq_def]; rfl) rfl (by simp only[ln, hfs74];omega) (by kernel_rfl) (by intro k f hk hex; simp only [List.mem_cons, List.not_mem_nil, or_false] at hex; rcases hex with rfl <;> (simp [List.getElem?_append, hfs74] at hk; subst hk; refine ⟨?_, by first | omega | (simp; done) | (simp; omega)⟩; simp [qids, asksB, Op.operands, Call.operands, topId, numS, numI, Wd, hfq75]; try omega)) ?_
       try simp only []
       refine DQ.sto1 (m := 2) [] _ (by simp (disch := first|omega|(simp only[ln];omega)) [runDf.eq_def, runF1, runF2, stepF.eq_def, updo.eq_def, hupo.eq_def, opSto1.eq_def]; rfl) rfl (by simp only[ln, hfs74];omega) (by kernel_rfl) (by intro k f hk hex; simp only [List.not_mem_nil] at hex) ?_
       try simp only []
       refine hK73 _ ?_
       refine .ret ?_
       exact hK _ _ _ _ trivial ((Fin.m).cast (by rw [hm', if_neg hw, eX, eY, eW]; try rfl))
     ·refine .region ?_
      refine .kf 1 (signI_fc A) hb136 ?_ (by simp (disch := first|omega|(simp only[ln];omega)) [List.take_succ_cons, List.take_zero, q3]; rfl) (ha := by simp (disch := first|omega|(simp only[ln];omega)) [idf_Wd', q3])
      refine .kf 1 (signI_fc B) hb136 ?_ (by simp (disch := first|omega|(simp only[ln];omega)) [List.take_succ_cons, List.take_zero, q3]; rfl) (ha := by simp (disch := first|omega|(simp only[ln];omega)) [idf_Wd', q3])
      refine .e ?_ (by simp (disch := first|omega|(simp only[ln];omega)) [q3]; rfl)
      refine hK57 _ ?_
      refine .c (fun h159 => ?_) (fun h159 => ?_)
      ·try simp only[dc]at h159
       have hw : noWay u v = true := by rw [hnw, q3]; rfl
       refine .sq fun K76 hK76 => ?_
       refine .region ?_
       refine .k 1 ?_
       refine AOPS.fcall (none_fc) rfl rfl (by simp; rfl) hbNone (by simp (disch := first|omega|(simp only[ln];omega)) [idf_Wd']) (by simp (disch := first|omega|(simp only[ln];omega))) (by simp) ?_
       simp only [puts_some, updo]
       refine .e ?_
       refine hK76 _ ?_
       refine .ret ?_
       exact hK _ _ _ _ trivial ((Fin.m).cast (by rw [hm', if_pos hw]; try rfl))
      ·simp at h159
 ·refine .r ?_ (by simp (disch := first|omega|(simp only[ln];omega)) [mx_fold, mn_fold, q1]; rfl)
  refine hK4 _ ?_
  refine .c (fun h67 => ?_) (fun h67 => ?_)
  ·try simp only[dc]at h67
   have hm := hmt (by rw [hap, q1]; rfl)
   refine .sq fun K77 hK77 => ?_
   refine .region ?_
   refine .k 1 ?_
   refine AOPS.fcall (none_fc) rfl rfl (by simp; rfl) hbNone (by simp (disch := first|omega|(simp only[ln];omega)) [idf_Wd']) (by simp (disch := first|omega|(simp only[ln];omega))) (by simp) ?_
   simp only [puts_some, updo]
   refine .e ?_
   refine hK77 _ ?_
   refine .ret ?_
   exact hK _ _ _ _ trivial ((Fin.m).cast (by rw [hm]; try rfl))
  ·simp at h67
end

end Go.Proofs.Ytdcajfgeleopiaa

/- Walks: where segments meet, by the reference; FnExactMeet. -/
namespace Go.Proofs.Ytdcajfgeleopiaa
open Go Go.RowKit
set_option linter.unusedSimpArgs false
set_option linter.unusedVariables false
set_option maxRecDepth 100000
attribute [local simp] szT2 byT2 agT2 unT2 zoT2 szT4 byT4 agT4 unT4 zoT4 szT78 byT78 agT78 elT78 unT78 zoT78 szT80 byT80 agT80 flT80 fdT80_0 fdT80_1 zoT80 szT102 byT102 agT102 flT102 fdT102_0 fdT102_1 zoT102 szT104 byT104 agT104 flT104 fdT104_0 fdT104_1 zoT104 szT113 byT113 agT113 flT113 fdT113_0 fdT113_1 fdT113_2 zoT113

def z3 : AV := .agg [.bool false, .nsl, .bool false, .nsl, .bool false, .nsl]
def nX (u v : Sg) : Int := nrm (denS u v) (wayX2 u v) / gcd3 (wayX2 u v) (wayY2 u v) (denS u v)
def nY (u v : Sg) : Int := nrm (denS u v) (wayY2 u v) / gcd3 (wayX2 u v) (wayY2 u v) (denS u v)
def nW (u v : Sg) : Int := nrm (denS u v) (denS u v) / gcd3 (wayX2 u v) (wayY2 u v) (denS u v)
def l4V (u v : Sg) : AV := if crs u.a u.b v.a = 0 ∧ crs u.a u.b v.b = 0 then (if lsS (highS u v) (lowS u v) = true then .tup [.int .i64 0, z3, z3] else if lowS u v = highS u v then .tup [.int .i64 1, l3A (lowS u v).x (lowS u v).y 1, z3] else .tup [.int .i64 2, l3A (lowS u v).x (lowS u v).y 1, l3A (highS u v).x (highS u v).y 1])
  else if noWay u v = true then .tup [.int .i64 0, z3, z3] else .tup [.int .i64 1, l3A (nX u v) (nY u v) (nW u v), z3]
theorem idf_l4V (u v : Sg) : idf (l4V u v) := by
  unfold l4V; repeat' split
  all_goals simp [idf, idfL, z3, l3A, l3C, idf_Wd']
theorem sg0 {z : Int} (h : z = 0) : (sg3 z == 0) = true := by simp [sg3_zero, h]
theorem sg1 {z : Int} (h : ¬ z = 0) : (sg3 z == 0) = false := by simp [sg3_zero, h]
theorem den_ne {u v : Sg} (gu : u.good = true) (gv : v.good = true) (h0 : ¬ (crs u.a u.b v.a = 0 ∧ crs u.a u.b v.b = 0)) (h : ¬ noWay u v = true) : denS u v ≠ 0 := by
  have := (way_apart (good_ls gu) (good_ls gv) h0 (by simpa using h)).1
  rw [den_w]; omega
theorem low_good {u v : Sg} (gu : u.good = true) (gv : v.good = true) : (lowS u v).good = true := by unfold lowS; split; exact good_a gv; exact good_a gu
theorem high_good {u v : Sg} (gu : u.good = true) (gv : v.good = true) : (highS u v).good = true := by unfold highS; split; exact good_b gv; exact good_b gu

theorem l1In_fc (n a b : Int) : FC Try.prog 140 [.int .i64 n, .int .i64 a, .int .i64 b] (.bool (decide (a ≤ n) && decide (n ≤ b))) := by
 refine .b Try.func140 15 (fun nx K hK => ?_)
 refine .q ?_
 refine .sq fun K2 hK2 => ?_
 cases h : decide (a ≤ n)
 ·refine .r ?_ (by simp (disch := first|omega|(simp only[ln];omega)) [h]; rfl)
  refine hK2 _ ?_
  refine .ret ?_
  exact hK _ _ _ _ trivial ((Fin.m).cast (by rw [h]; rfl))
 ·refine .r ?_ (by simp (disch := first|omega|(simp only[ln];omega)) [h]; rfl)
  refine hK2 _ ?_
  refine .ret ?_
  exact hK _ _ _ _ trivial ((Fin.m).cast (by rw [h]; rfl))
theorem l1InM_fc (n : Int) : FC Try.prog 140 [.int .i64 n, .int .i64 (-1000000), .int .i64 1000000] (.bool (inM n)) := l1In_fc n (-1000000) 1000000
section
attribute [local simp] Sp.av Sp.cells Sg.av Sg.cells
theorem spotOkS_fc (p : Sp) : FC Try.prog 88 [p.av] (.bool p.good) := by
 refine .b Try.func88 11 (fun nx K hK => ?_) (hi := by simp [idfL, idf, Sp.av, Sp.cells, Sg.av, Sg.cells])
 refine .q ?_
 refine .sq fun K2 hK2 => ?_
 cases hx : inM p.x
 ·refine .region ?_
  refine .kf 2 (l1InM_fc p.x) hb140 ?_ (by simp (disch := first|omega|(simp only[ln];omega)) [List.take_succ_cons, List.take_zero, hx]; rfl) (ha := by simp (disch := first|omega|(simp only[ln];omega)) [idf_Wd', hx])
  refine .e ?_ (by simp (disch := first|omega|(simp only[ln];omega)) [hx]; rfl)
  refine hK2 _ ?_
  refine .ret ?_
  exact hK _ _ _ _ trivial ((Fin.m).cast (by unfold Sp.good; rw [hx]; rfl))
 ·refine .region ?_
  refine .kf 2 (l1InM_fc p.x) hb140 ?_ (by simp (disch := first|omega|(simp only[ln];omega)) [List.take_succ_cons, List.take_zero, hx]; rfl) (ha := by simp (disch := first|omega|(simp only[ln];omega)) [idf_Wd', hx])
  refine .kf 3 (l1InM_fc p.y) hb140 ?_ (by simp (disch := first|omega|(simp only[ln];omega)) [List.take_succ_cons, List.take_zero, hx]; rfl) (ha := by simp (disch := first|omega|(simp only[ln];omega)) [idf_Wd', hx])
  refine .e ?_ (by simp (disch := first|omega|(simp only[ln];omega)) [hx]; rfl)
  refine hK2 _ ?_
  refine .ret ?_
  exact hK _ _ _ _ trivial ((Fin.m).cast (by unfold Sp.good; rw [hx]; rfl))
theorem l4Less_fc (p q : Sp) : FC Try.prog 100 [p.av, q.av] (.bool (lsS p q)) := by
 refine .b Try.func100 24 (fun nx K hK => ?_) (hi := by simp [idfL, idf, Sp.av, Sp.cells, Sg.av, Sg.cells])
 refine .q ?_
 refine .sq fun K2 hK2 => ?_
 by_cases q1 : p.x < q.x
 ·have hl : lsS p q = true := by simp [lsS, q1]
  have c1 : decide (p.x < q.x) = true := by simp [q1]
  refine .r ?_ (by simp (disch := first|omega|(simp only[ln];omega)) [c1]; rfl)
  refine hK2 _ ?_
  refine .ret ?_
  exact hK _ _ _ _ trivial ((Fin.m).cast (by rw [hl]; try rfl))
 ·have c1 : decide (p.x < q.x) = false := by simp; omega
  by_cases q2 : p.x = q.x
  ·have c2 : (p.x == q.x) = true := by simp [q2]
   have hl : lsS p q = decide (p.y < q.y) := by simp [lsS, q2]
   refine .r ?_ (by simp (disch := first|omega|(simp only[ln];omega)) [c1, c2]; rfl)
   refine hK2 _ ?_
   refine .ret ?_
   exact hK _ _ _ _ trivial ((Fin.m).cast (by rw [hl]))
  ·have c2 : (p.x == q.x) = false := by simp [q2]
   have hl : lsS p q = false := by simp [lsS, q2]; omega
   refine .r ?_ (by simp (disch := first|omega|(simp only[ln];omega)) [c1, c2]; rfl)
   refine hK2 _ ?_
   refine .ret ?_
   exact hK _ _ _ _ trivial ((Fin.m).cast (by rw [hl]; try rfl))
set_option maxHeartbeats 1000000 in
theorem l4Turn_fc (a b c : Sp) (ha : a.good = true) (hb : b.good = true) (hc : c.good = true) : FC Try.prog 141 [a.av, b.av, c.av] (.int .i64 (sg3 (crs a b c))) := by
 have pa := Sp.b ha
 have pb := Sp.b hb
 have pc := Sp.b hc
 have m1 := mul_b (u := b.x - a.x) (v := c.y - a.y) (m := 2000000) (n := 2000000) (by omega) (by omega) (by omega) (by omega) (by omega)
 have m2 := mul_b (u := b.y - a.y) (v := c.x - a.x) (m := 2000000) (n := 2000000) (by omega) (by omega) (by omega) (by omega) (by omega)
 have e : (b.x - a.x) * (c.y - a.y) - (b.y - a.y) * (c.x - a.x) = crs a b c := rfl
 refine .b Try.func141 35 (fun nx K hK => ?_) (hi := by simp [idfL, idf, Sp.av, Sp.cells, Sg.av, Sg.cells])
 refine .q ?_
 refine .q ?_
 refine .sq fun K3 hK3 => ?_
 refine .q ?_ (by simp (disch := first|omega|(simp only[ln];omega)) [e]; rfl)
 refine .c (t := decide (crs a b c < 0)) (fun h32 => ?_) (fun h32 => ?_)
 ·try simp only[dc]at h32
  refine .q ?_
  refine .ret ?_
  exact hK _ _ _ _ trivial ((Fin.m).cast (by unfold sg3; rw [if_pos h32]))
 ·try simp only[dc]at h32
  refine .skip ?_
  refine hK3 _ ?_
  refine .sq fun K6 hK6 => ?_
  refine .q ?_ (by simp (disch := first|omega|(simp only[ln];omega)) [e]; rfl)
  refine .c (t := decide (0 < crs a b c)) (fun h34 => ?_) (fun h34 => ?_)
  ·try simp only[dc]at h34
   refine .q ?_
   refine .ret ?_
   exact hK _ _ _ _ trivial ((Fin.m).cast (by unfold sg3; rw [if_neg h32, if_pos h34]))
  ·try simp only[dc]at h34
   refine .skip ?_
   refine hK6 _ ?_
   refine .q ?_
   refine .ret ?_
   exact hK _ _ _ _ trivial ((Fin.m).cast (by unfold sg3; rw [if_neg h32, if_neg h34]))
end
section
attribute [local simp] idf_numS cells_numS numS_fold Sp.av Sp.cells Sg.av Sg.cells l3A l3C
set_option maxHeartbeats 8000000 in
theorem l4Meet_fc (u v : Sg) (gu : u.good = true) (gv : v.good = true) : FC Try.prog 89 [u.av, v.av] (l4V u v) := by
 have ua := good_a gu
 have ub := good_b gu
 have va := good_a gv
 have vb := good_b gv
 have pua := Sp.b ua
 have pub := Sp.b ub
 have pva := Sp.b va
 have pvb := Sp.b vb
 have cA := l4Turn_fc u.a u.b v.a ua ub va
 have cB := l4Turn_fc u.a u.b v.b ua ub vb
 have cC := l4Turn_fc v.a v.b u.a va vb ua
 have cD := l4Turn_fc v.a v.b u.b va vb ub
 have hnw : noWay u v = (decide (0 < sg3 (crs u.a u.b v.a) * sg3 (crs u.a u.b v.b)) || decide (0 < sg3 (crs v.a v.b u.a) * sg3 (crs v.a v.b u.b))) := rfl
 have sAB := mul_sg (crs u.a u.b v.a) (crs u.a u.b v.b)
 have sCD := mul_sg (crs v.a v.b u.a) (crs v.a v.b u.b)
 obtain ⟨A, hA⟩ : ∃ A, crs u.a u.b v.a = A := ⟨_, rfl⟩
 obtain ⟨B, hB⟩ : ∃ B, crs u.a u.b v.b = B := ⟨_, rfl⟩
 rw [hA] at cA sAB hnw
 rw [hB] at cB sAB hnw
 generalize crs v.a v.b u.a = C at *
 generalize crs v.a v.b u.b = D at *
 refine .b Try.func89 181 (fun nx K hK => ?_) (hi := by simp [idfL, idf, Sp.av, Sp.cells, Sg.av, Sg.cells]) (hr := idf_l4V u v)
 refine .q ?_
 refine .sq fun K2 hK2 => ?_
 refine .region ?_
 refine .kf 6 cA hb141 ?_
 refine .e ?_
 refine hK2 _ ?_
 refine .sq fun K3 hK3 => ?_
 refine .region ?_
 refine .kf 6 cB hb141 ?_
 refine .e ?_
 refine hK3 _ ?_
 refine .sq fun K4 hK4 => ?_
 refine .region ?_
 refine .kf 6 cC hb141 ?_
 refine .e ?_
 refine hK4 _ ?_
 refine .sq fun K5 hK5 => ?_
 refine .region ?_
 refine .kf 6 cD hb141 ?_
 refine .e ?_
 refine hK5 _ ?_
 refine .sq fun K6 hK6 => ?_
 refine .sq fun K7 hK7 => ?_
 by_cases hA0 : A = 0
 ·have c1 := sg0 hA0
  by_cases hB0 : B = 0
  ·have c2 := sg0 hB0
   have h0 : A = 0 ∧ B = 0 := ⟨hA0, hB0⟩
   refine .r ?_ (by simp (disch := first|omega|(simp only[ln];omega)) [c1, c2]; rfl)
   refine hK7 _ ?_
   refine .c (fun h54 => ?_) (fun h54 => ?_)
   ·try simp only[dc]at h54
    refine .q ?_
    refine .sq fun K9 hK9 => ?_
    have J9 : ∀ s : St, (∃ lo : Sp, lo = lowS u v ∧ s.env 2 = .ptr nx 0 0 ∧ s.env 3 = .ptr (nx + 1) 0 0 ∧ s.env 5 = .ptr (nx + 1 + 1) 0 0 ∧ s.env 6 = .ptr (nx + 1 + 1 + 1) 0 0 ∧ s.env 11 = .ptr (nx + 1 + 1 + 1 + 1) 0 0 ∧ s.heap nx = some (4, [[.int .i64 u.a.x, .int .i64 u.a.y, .int .i64 u.b.x, .int .i64 u.b.y]]) ∧ s.heap (nx + 1) = some (4, [[.int .i64 v.a.x, .int .i64 v.a.y, .int .i64 v.b.x, .int .i64 v.b.y]]) ∧ s.heap (nx + 1 + 1) = some (6, [[.bool false, .nsl, .bool false, .nsl, .bool false, .nsl]]) ∧ s.heap (nx + 1 + 1 + 1) = some (6, [[.bool false, .nsl, .bool false, .nsl, .bool false, .nsl]]) ∧ s.heap (nx + 1 + 1 + 1 + 1) = some (2, [[.int .i64 lo.x, .int .i64 lo.y]]) ∧ (nx + 1 + 1 + 1 + 1) < s.nx ∧ s.nt = 181) → K9 s := by
     rintro ⟨e, H, mm, nt⟩ ⟨lo, hlo, g2, g3, g5, g6, g11, hU, hV, hP, hQ, hL, hm, rfl⟩
     simp only [] at g2 g3 g5 g6 g11 hU hV hP hQ hL hm
     refine hK9 _ ?_
     refine .q ?_ (by simp (disch := first|omega|(simp only[ln];omega)) [g2, g3, g5, g6, g11, hU, hV, hP, hQ, hL]; rfl)
     refine .sq fun K11 hK11 => ?_
     have J11 : ∀ s : St, (∃ (lo hi : Sp) (ib : Nat), lo = lowS u v ∧ hi = highS u v ∧ s.env 2 = .ptr nx 0 0 ∧ s.env 3 = .ptr (nx + 1) 0 0 ∧ s.env 5 = .ptr (nx + 1 + 1) 0 0 ∧ s.env 6 = .ptr (nx + 1 + 1 + 1) 0 0 ∧ s.env 11 = .ptr (nx + 1 + 1 + 1 + 1) 0 0 ∧ s.heap nx = some (4, [[.int .i64 u.a.x, .int .i64 u.a.y, .int .i64 u.b.x, .int .i64 u.b.y]]) ∧ s.heap (nx + 1) = some (4, [[.int .i64 v.a.x, .int .i64 v.a.y, .int .i64 v.b.x, .int .i64 v.b.y]]) ∧ s.heap (nx + 1 + 1) = some (6, [[.bool false, .nsl, .bool false, .nsl, .bool false, .nsl]]) ∧ s.heap (nx + 1 + 1 + 1) = some (6, [[.bool false, .nsl, .bool false, .nsl, .bool false, .nsl]]) ∧ s.heap (nx + 1 + 1 + 1 + 1) = some (2, [[.int .i64 lo.x, .int .i64 lo.y]]) ∧ s.env 12 = .ptr ib 0 0 ∧ s.heap ib = some (2, [[.int .i64 hi.x, .int .i64 hi.y]]) ∧ (nx + 1 + 1 + 1 + 1) < ib ∧ ib < s.nx ∧ s.nt = 181) → K11 s := by
      clear g2 g3 g5 g6 g11 hU hV hP hQ hL hm hlo lo
      rintro ⟨e, H, mm, nt⟩ ⟨lo, hi, ib, hlo, hhi, g2, g3, g5, g6, g11, hU, hV, hP, hQ, hL, g12, hI, hib, hm, rfl⟩
      simp only [] at g2 g3 g5 g6 g11 g12 hU hV hP hQ hL hI hm
      have hli : l4V u v = if lsS hi lo = true then .tup [.int .i64 0, z3, z3] else if lo = hi then .tup [.int .i64 1, l3A lo.x lo.y 1, z3] else .tup [.int .i64 2, l3A lo.x lo.y 1, l3A hi.x hi.y 1] := by unfold l4V; rw [hA, hB, if_pos h0, hlo, hhi]
      have pl := Sp.b (by rw [hlo]; exact low_good gu gv : lo.good = true)
      have ph := Sp.b (by rw [hhi]; exact high_good gu gv : hi.good = true)
      clear hlo hhi
      refine hK11 _ ?_
      refine .sq fun K12 hK12 => ?_
      refine .sq fun K13 hK13 => ?_
      refine .region ?_
      refine .kf 2 (l4Less_fc hi lo) hb100 ?_ (by simp (disch := first|omega|(simp only[ln];omega)) [List.take_succ_cons, List.take_zero, g2, g3, g5, g6, g11, hU, hV, hP, hQ, hL, g12, hI]; rfl) (ha := by simp (disch := first|omega|(simp only[ln];omega)) [idf_Wd', g2, g3, g5, g6, g11, hU, hV, hP, hQ, hL, g12, hI])
      refine .nil ?_
      refine hK13 _ ?_
      refine .c (t := lsS hi lo) (fun h73 => ?_) (fun h73 => ?_)
      ·try simp only[dc]at h73
       refine .q ?_ (by simp (disch := first|omega|(simp only[ln];omega)) [g2, g3, g5, g6, g11, hU, hV, hP, hQ, hL]; rfl)
       refine .ret ?_
       exact hK _ _ _ _ trivial ((Fin.mk (by simp (disch := omega) [aRes, aResL, aRes1, g5, g6]; rfl)).cast (by rw [hli, if_pos h73]; rfl))
      ·try simp only[dc]at h73
       refine .skip ?_
       refine hK12 _ ?_
       refine .sq fun K15 hK15 => ?_
       refine .q ?_ (by simp (disch := first|omega|(simp only[ln];omega)) [g2, g3, g5, g6, g11, hU, hV, hP, hQ, hL, g12, hI, eqW2]; rfl)
       refine .c (t := decide (lo = hi)) (fun h78 => ?_) (fun h78 => ?_)
       ·try simp only[dc]at h78
        refine .sq fun K17 hK17 => ?_
        refine .region ?_
        refine .kf 1 (l3Spot_fc lo.x lo.y (by omega) (by omega) (by omega) (by omega)) hb142 ?_ (by simp (disch := first|omega|(simp only[ln];omega)) [List.take_succ_cons, List.take_zero, g2, g3, g5, g6, g11, hU, hV, hP, hQ, hL]; rfl) (ha := by simp (disch := first|omega|(simp only[ln];omega)) [idf_Wd', g2, g3, g5, g6, g11, hU, hV, hP, hQ, hL])
        refine .e ?_ (by simp (disch := first|omega|(simp only[ln];omega)) [g2, g3, g5, g6, g11, hU, hV, hP, hQ, hL]; rfl)
        refine hK17 _ ?_
        refine .ret ?_
        exact hK _ _ _ _ trivial ((Fin.mk (by simp (disch := omega) [aRes, aResL, aRes1, g5, g6]; rfl)).cast (by rw [hli, if_neg (by rw [h73]; simp), if_pos h78]; rfl))
       ·try simp only[dc]at h78
        refine .skip ?_
        refine hK15 _ ?_
        refine .sq fun K18 hK18 => ?_
        refine .old fun hold => ?_
        refine .d 4 ?_
        refine .k 1 (fun fs19 hfs19 => ?_) (by simp (disch := first|omega|(simp only[ln];omega)) [runDf.eq_def, runF1, runF2, stepF.eq_def, updo.eq_def, hupo.eq_def, opSto1.eq_def, List.take_succ_cons, List.take_zero, g2, g3, g5, g6, g11, hU, hV, hP, hQ, hL, g12, hI]; rfl)
        refine .f (l3Spot_fc lo.x lo.y (by omega) (by omega) (by omega) (by omega)) hb142 ?_ (ha := by simp (disch := first|omega|(simp only[ln];omega)) [idf_Wd', g2, g3, g5, g6, g11, hU, hV, hP, hQ, hL, g12, hI])
        refine DP.runF1q (by simp (disch := first|omega|(simp only[ln];omega)) [runDf.eq_def, runF1, runF2, stepF.eq_def, updo.eq_def, hupo.eq_def, opSto1.eq_def, g2, g3, g5, g6, g11, hU, hV, hP, hQ, hL, g12, hI]; rfl) fun fq20 hfq20 => ?_
        simp [qids, asksB, Op.operands, topId] at hfq20
        simp only [updo]
        refine .f (l3Spot_fc hi.x hi.y (by omega) (by omega) (by omega) (by omega)) hb142 ?_ (ha := by simp (disch := first|omega|(simp only[ln];omega)) [idf_Wd', g2, g3, g5, g6, g11, hU, hV, hP, hQ, hL, g12, hI])
        refine DQ.asg1 _ rfl rfl ?_
        simp only [updo]
        refine DQ.sto1 (m := 4) [2, 3] _ (by simp (disch := first|omega|(simp only[ln];omega)) [runDf.eq_def, runF1, runF2, stepF.eq_def, updo.eq_def, hupo.eq_def, opSto1.eq_def, g2, g3, g5, g6, g11, hU, hV, hP, hQ, hL, g12, hI]; rfl) rfl (by simp only[ln, hfs19];omega) (by kernel_rfl) (by intro k f hk hex; simp only [List.mem_cons, List.not_mem_nil, or_false] at hex; rcases hex with rfl | rfl <;> (simp [List.getElem?_append, hfs19] at hk; subst hk; refine ⟨?_, by first | omega | (simp; done) | (simp; omega)⟩; simp [qids, asksB, Op.operands, Call.operands, topId, numS, numI, Wd, hfq20, g2, g3, g5, g6, g11, g12]; try omega)) ?_
        try simp only []
        refine DQ.sto1 (m := 4) [] _ (by simp (disch := first|omega|(simp only[ln];omega)) [runDf.eq_def, runF1, runF2, stepF.eq_def, updo.eq_def, hupo.eq_def, opSto1.eq_def, g2, g3, g5, g6, g11, hU, hV, hP, hQ, hL, g12, hI]; rfl) rfl (by simp only[ln, hfs19];omega) (by kernel_rfl) (by intro k f hk hex; simp only [List.not_mem_nil] at hex) ?_
        try simp only []
        refine hK18 _ ?_
        refine .ret ?_
        exact hK _ _ _ _ trivial ((Fin.mk (by simp (disch := omega) [aRes, aResL, aRes1, g5, g6]; rfl)).cast (by rw [hli, if_neg (by rw [h73]; simp), if_neg h78]; rfl))
     refine .sq fun K21 hK21 => ?_
     refine .region ?_
     refine .kf 3 (l4Less_fc v.b u.b) hb100 ?_ (by simp (disch := first|omega|(simp only[ln];omega)) [List.take_succ_cons, List.take_zero, g2, g3, g5, g6, g11, hU, hV, hP, hQ, hL]; rfl) (ha := by simp (disch := first|omega|(simp only[ln];omega)) [idf_Wd', g2, g3, g5, g6, g11, hU, hV, hP, hQ, hL])
     refine .nil ?_
     refine hK21 _ ?_
     refine .c (t := lsS v.b u.b) (fun h68 => ?_) (fun h68 => ?_)
     ·try simp only[dc]at h68
      refine .r ?_ (by simp (disch := first|omega|(simp only[ln];omega)) [g2, g3, g5, g6, g11, hU, hV, hP, hQ, hL]; rfl)
      refine J11 _ ?_
      exact ⟨lo, v.b, mm, hlo, by unfold highS; rw [if_pos h68], by simp [g2, g3, g5, g6, g11], by simp [g2, g3, g5, g6, g11], by simp [g2, g3, g5, g6, g11], by simp [g2, g3, g5, g6, g11], by simp [g2, g3, g5, g6, g11], by simp (disch := omega) [hU, hV, hP, hQ, hL], by simp (disch := omega) [hU, hV, hP, hQ, hL], by simp (disch := omega) [hU, hV, hP, hQ, hL], by simp (disch := omega) [hU, hV, hP, hQ, hL], by simp (disch := omega) [hU, hV, hP, hQ, hL], by simp, by simp (disch := omega), by omega, by first | omega | (simp; done) | (simp; omega), rfl⟩
     ·try simp only[dc]at h68
      refine .skip ?_
      refine J11 _ ?_
      exact ⟨lo, u.b, mm, hlo, by unfold highS; rw [h68]; rfl, by simp [g2, g3, g5, g6, g11], by simp [g2, g3, g5, g6, g11], by simp [g2, g3, g5, g6, g11], by simp [g2, g3, g5, g6, g11], by simp [g2, g3, g5, g6, g11], by simp (disch := omega) [hU, hV, hP, hQ, hL], by simp (disch := omega) [hU, hV, hP, hQ, hL], by simp (disch := omega) [hU, hV, hP, hQ, hL], by simp (disch := omega) [hU, hV, hP, hQ, hL], by simp (disch := omega) [hU, hV, hP, hQ, hL], by simp, by simp (disch := omega), by omega, by first | omega | (simp; done) | (simp; omega), rfl⟩
    refine .sq fun K22 hK22 => ?_
    refine .region ?_
    refine .kf 3 (l4Less_fc u.a v.a) hb100 ?_
    refine .nil ?_
    refine hK22 _ ?_
    refine .c (t := lsS u.a v.a) (fun h60 => ?_) (fun h60 => ?_)
    ·try simp only[dc]at h60
     refine .r ?_
     refine J9 _ ?_
     exact ⟨v.a, by unfold lowS; rw [if_pos h60], by simp, by simp, by simp, by simp, by simp, by simp (disch := omega), by simp (disch := omega), by simp (disch := omega), by simp (disch := omega), by simp (disch := omega), by first | omega | (simp; done) | (simp; omega), rfl⟩
    ·try simp only[dc]at h60
     refine .skip ?_
     refine J9 _ ?_
     exact ⟨u.a, by unfold lowS; rw [h60]; rfl, by simp, by simp, by simp, by simp, by simp, by simp (disch := omega), by simp (disch := omega), by simp (disch := omega), by simp (disch := omega), by simp (disch := omega), by first | omega | (simp; done) | (simp; omega), rfl⟩
   ·simp at h54
  ·have c2 := sg1 hB0
   have h0 : ¬ (A = 0 ∧ B = 0) := fun h => hB0 h.2
   refine .r ?_ (by simp (disch := first|omega|(simp only[ln];omega)) [c1, c2]; rfl)
   refine hK7 _ ?_
   refine .c (fun h54 => ?_) (fun h54 => ?_)
   ·simp at h54
   ·try simp only[dc]at h54
    refine .skip ?_
    refine hK6 _ ?_
    refine .sq fun K23 hK23 => ?_
    refine .sq fun K24 hK24 => ?_
    cases q3 : decide (0 < sg3 A * sg3 B)
    ·refine .r ?_ (by simp (disch := first|omega|(simp only[ln];omega)) [q3]; rfl)
     refine hK24 _ ?_
     refine .c (t := decide (0 < sg3 C * sg3 D)) (fun h95 => ?_) (fun h95 => ?_)
     ·try simp only[dc]at h95
      have hw : noWay u v = true := by rw [hnw, q3]; simp [h95]
      refine .q ?_
      refine .ret ?_
      exact hK _ _ _ _ trivial ((Fin.m).cast (by unfold l4V; rw [hA, hB, if_neg h0, if_pos hw]; try rfl))
     ·try simp only[dc]at h95
      have hw : ¬ noWay u v = true := by rw [hnw, q3]; simp; omega
      have m1 := mul_b (u := u.b.x - u.a.x) (v := v.b.y - v.a.y) (m := 2000000) (n := 2000000) (by omega) (by omega) (by omega) (by omega) (by omega)
      have m2 := mul_b (u := u.b.y - u.a.y) (v := v.b.x - v.a.x) (m := 2000000) (n := 2000000) (by omega) (by omega) (by omega) (by omega) (by omega)
      have m3 := mul_b (u := v.a.x - u.a.x) (v := v.b.y - v.a.y) (m := 2000000) (n := 2000000) (by omega) (by omega) (by omega) (by omega) (by omega)
      have m4 := mul_b (u := v.a.y - u.a.y) (v := v.b.x - v.a.x) (m := 2000000) (n := 2000000) (by omega) (by omega) (by omega) (by omega) (by omega)
      have hdn := den_ne gu gv (by rw [hA, hB]; exact h0) hw
      have eD : denS u v = (u.b.x - u.a.x) * (v.b.y - v.a.y) - (u.b.y - u.a.y) * (v.b.x - v.a.x) := rfl
      have eN : numT u v = (v.a.x - u.a.x) * (v.b.y - v.a.y) - (v.a.y - u.a.y) * (v.b.x - v.a.x) := rfl
      have b1 : Bg 1 u.a.x := Bg.i64 (by omega) (by omega)
      have b2 : Bg 1 u.a.y := Bg.i64 (by omega) (by omega)
      have b3 : Bg 1 (denS u v) := Bg.i64 (by rw [eD]; omega) (by rw [eD]; omega)
      have b4 : Bg 1 (numT u v) := Bg.i64 (by rw [eN]; omega) (by rw [eN]; omega)
      have b5 : Bg 1 (u.b.x - u.a.x) := Bg.i64 (by omega) (by omega)
      have b6 : Bg 1 (u.b.y - u.a.y) := Bg.i64 (by omega) (by omega)
      have i1 := l1Int_fc (denS u v) (by rw [eD]; omega) (by rw [eD]; omega)
      have i2 := l1Int_fc (numT u v) (by rw [eN]; omega) (by rw [eN]; omega)
      rw [eD] at i1
      rw [eN] at i2
      have x1 := l1Mul_fc b1 b3 (by omega) (by omega)
      have x2 := l1Mul_fc b5 b4 (by omega) (by omega)
      have x3 := l1Add_fc (b1.mul b3) (b5.mul b4) (by omega) (by omega)
      have y1 := l1Mul_fc b2 b3 (by omega) (by omega)
      have y2 := l1Mul_fc b6 b4 (by omega) (by omega)
      have y3 := l1Add_fc (b2.mul b3) (b6.mul b4) (by omega) (by omega)
      have l3 := l3Make_fc (j := 3) (wayX2 u v) (wayY2 u v) (denS u v) hdn (((b1.mul b3).add (b5.mul b4)).le (by omega)) (((b2.mul b3).add (b6.mul b4)).le (by omega)) (b3.le (by omega)) (by omega) (by omega)
      unfold wayX2 wayY2 at l3
      rw [eD] at x1 x3 y1 y3
      rw [eN] at x2 x3 y2 y3
      simp only [eD, eN] at l3
      have eV : l3A (nX u v) (nY u v) (nW u v) = l3A (nX u v) (nY u v) (nW u v) := rfl
      unfold nX nY nW wayX2 wayY2 at eV
      simp only [eD, eN] at eV
      have hl4 : l4V u v = .tup [.int .i64 1, l3A (nX u v) (nY u v) (nW u v), z3] := by unfold l4V; rw [hA, hB, if_neg h0, if_neg hw]
      unfold nX nY nW wayX2 wayY2 at hl4
      simp only [eD, eN] at hl4
      clear b3 b4 eV
      refine .skip ?_
      refine hK23 _ ?_
      refine .q ?_
      refine .q ?_
      refine .q ?_
      refine .q ?_
      refine .sq fun K30 hK30 => ?_
      refine .region ?_
      refine .kf 7 i1 hb56 ?_
      refine .e ?_
      refine hK30 _ ?_
      refine .sq fun K31 hK31 => ?_
      refine .region ?_
      refine .kf 19 i2 hb56 ?_
      refine .e ?_
      refine hK31 _ ?_
      refine .sq fun K32 hK32 => ?_
      refine .d 12 ?_
      refine .k 3 (fun fs33 hfs33 => ?_)
      refine .f (l1Int_fc u.a.x (by omega) (by omega)) hb56 ?_
      refine .k 1 (fun fs34 hfs34 => ?_)
      refine .f x1 hb144 ?_
      refine .k 1 (fun fs35 hfs35 => ?_)
      refine .f (l1Int_fc (u.b.x - u.a.x) (by omega) (by omega)) hb56 ?_
      refine .k 1 (fun fs36 hfs36 => ?_)
      refine .f x2 hb144 ?_
      refine .f x3 hb143 ?_
      refine .k 1 (fun fs37 hfs37 => ?_)
      refine .r 12 (by simp only[ln, hfs33, hfs34, hfs35, hfs36, hfs37];omega) ?_
      refine hK32 _ ?_
      refine .sq fun K38 hK38 => ?_
      refine .d 12 ?_
      refine .k 3 (fun fs39 hfs39 => ?_)
      refine .f (l1Int_fc u.a.y (by omega) (by omega)) hb56 ?_
      refine .k 1 (fun fs40 hfs40 => ?_)
      refine .f y1 hb144 ?_
      refine .k 1 (fun fs41 hfs41 => ?_)
      refine .f (l1Int_fc (u.b.y - u.a.y) (by omega) (by omega)) hb56 ?_
      refine .k 1 (fun fs42 hfs42 => ?_)
      refine .f y2 hb144 ?_
      refine .f y3 hb143 ?_
      refine .k 1 (fun fs43 hfs43 => ?_)
      refine .r 12 (by simp only[ln, hfs39, hfs40, hfs41, hfs42, hfs43];omega) ?_
      refine hK38 _ ?_
      refine .sq fun K44 hK44 => ?_
      refine .region ?_
      refine .kf 3 l3 hb145 ?_
      refine .e ?_
      refine hK44 _ ?_
      refine .ret ?_
      exact hK _ _ _ _ trivial ((Fin.m).cast (by rw [hl4]; rfl))
    ·refine .r ?_ (by simp (disch := first|omega|(simp only[ln];omega)) [q3]; rfl)
     refine hK24 _ ?_
     refine .c (fun h95 => ?_) (fun h95 => ?_)
     ·try simp only[dc]at h95
      have hw : noWay u v = true := by rw [hnw, q3]; rfl
      refine .q ?_
      refine .ret ?_
      exact hK _ _ _ _ trivial ((Fin.m).cast (by unfold l4V; rw [hA, hB, if_neg h0, if_pos hw]; try rfl))
     ·simp at h95
 ·have c1 := sg1 hA0
  have h0 : ¬ (A = 0 ∧ B = 0) := fun h => hA0 h.1
  refine .r ?_ (by simp (disch := first|omega|(simp only[ln];omega)) [c1]; rfl)
  refine hK7 _ ?_
  refine .c (fun h54 => ?_) (fun h54 => ?_)
  ·simp at h54
  ·try simp only[dc]at h54
   refine .skip ?_
   refine hK6 _ ?_
   refine .sq fun K46 hK46 => ?_
   refine .sq fun K47 hK47 => ?_
   cases q3 : decide (0 < sg3 A * sg3 B)
   ·refine .r ?_ (by simp (disch := first|omega|(simp only[ln];omega)) [q3]; rfl)
    refine hK47 _ ?_
    refine .c (t := decide (0 < sg3 C * sg3 D)) (fun h95 => ?_) (fun h95 => ?_)
    ·try simp only[dc]at h95
     have hw : noWay u v = true := by rw [hnw, q3]; simp [h95]
     refine .q ?_
     refine .ret ?_
     exact hK _ _ _ _ trivial ((Fin.m).cast (by unfold l4V; rw [hA, hB, if_neg h0, if_pos hw]; try rfl))
    ·try simp only[dc]at h95
     have hw : ¬ noWay u v = true := by rw [hnw, q3]; simp; omega
     have m1 := mul_b (u := u.b.x - u.a.x) (v := v.b.y - v.a.y) (m := 2000000) (n := 2000000) (by omega) (by omega) (by omega) (by omega) (by omega)
     have m2 := mul_b (u := u.b.y - u.a.y) (v := v.b.x - v.a.x) (m := 2000000) (n := 2000000) (by omega) (by omega) (by omega) (by omega) (by omega)
     have m3 := mul_b (u := v.a.x - u.a.x) (v := v.b.y - v.a.y) (m := 2000000) (n := 2000000) (by omega) (by omega) (by omega) (by omega) (by omega)
     have m4 := mul_b (u := v.a.y - u.a.y) (v := v.b.x - v.a.x) (m := 2000000) (n := 2000000) (by omega) (by omega) (by omega) (by omega) (by omega)
     have hdn := den_ne gu gv (by rw [hA, hB]; exact h0) hw
     have eD : denS u v = (u.b.x - u.a.x) * (v.b.y - v.a.y) - (u.b.y - u.a.y) * (v.b.x - v.a.x) := rfl
     have eN : numT u v = (v.a.x - u.a.x) * (v.b.y - v.a.y) - (v.a.y - u.a.y) * (v.b.x - v.a.x) := rfl
     have b1 : Bg 1 u.a.x := Bg.i64 (by omega) (by omega)
     have b2 : Bg 1 u.a.y := Bg.i64 (by omega) (by omega)
     have b3 : Bg 1 (denS u v) := Bg.i64 (by rw [eD]; omega) (by rw [eD]; omega)
     have b4 : Bg 1 (numT u v) := Bg.i64 (by rw [eN]; omega) (by rw [eN]; omega)
     have b5 : Bg 1 (u.b.x - u.a.x) := Bg.i64 (by omega) (by omega)
     have b6 : Bg 1 (u.b.y - u.a.y) := Bg.i64 (by omega) (by omega)
     have i1 := l1Int_fc (denS u v) (by rw [eD]; omega) (by rw [eD]; omega)
     have i2 := l1Int_fc (numT u v) (by rw [eN]; omega) (by rw [eN]; omega)
     rw [eD] at i1
     rw [eN] at i2
     have x1 := l1Mul_fc b1 b3 (by omega) (by omega)
     have x2 := l1Mul_fc b5 b4 (by omega) (by omega)
     have x3 := l1Add_fc (b1.mul b3) (b5.mul b4) (by omega) (by omega)
     have y1 := l1Mul_fc b2 b3 (by omega) (by omega)
     have y2 := l1Mul_fc b6 b4 (by omega) (by omega)
     have y3 := l1Add_fc (b2.mul b3) (b6.mul b4) (by omega) (by omega)
     have l3 := l3Make_fc (j := 3) (wayX2 u v) (wayY2 u v) (denS u v) hdn (((b1.mul b3).add (b5.mul b4)).le (by omega)) (((b2.mul b3).add (b6.mul b4)).le (by omega)) (b3.le (by omega)) (by omega) (by omega)
     unfold wayX2 wayY2 at l3
     rw [eD] at x1 x3 y1 y3
     rw [eN] at x2 x3 y2 y3
     simp only [eD, eN] at l3
     have eV : l3A (nX u v) (nY u v) (nW u v) = l3A (nX u v) (nY u v) (nW u v) := rfl
     unfold nX nY nW wayX2 wayY2 at eV
     simp only [eD, eN] at eV
     have hl4 : l4V u v = .tup [.int .i64 1, l3A (nX u v) (nY u v) (nW u v), z3] := by unfold l4V; rw [hA, hB, if_neg h0, if_neg hw]
     unfold nX nY nW wayX2 wayY2 at hl4
     simp only [eD, eN] at hl4
     clear b3 b4 eV
     refine .skip ?_
     refine hK46 _ ?_
     refine .q ?_
     refine .q ?_
     refine .q ?_
     refine .q ?_
     refine .sq fun K53 hK53 => ?_
     refine .region ?_
     refine .kf 7 i1 hb56 ?_
     refine .e ?_
     refine hK53 _ ?_
     refine .sq fun K54 hK54 => ?_
     refine .region ?_
     refine .kf 19 i2 hb56 ?_
     refine .e ?_
     refine hK54 _ ?_
     refine .sq fun K55 hK55 => ?_
     refine .d 12 ?_
     refine .k 3 (fun fs56 hfs56 => ?_)
     refine .f (l1Int_fc u.a.x (by omega) (by omega)) hb56 ?_
     refine .k 1 (fun fs57 hfs57 => ?_)
     refine .f x1 hb144 ?_
     refine .k 1 (fun fs58 hfs58 => ?_)
     refine .f (l1Int_fc (u.b.x - u.a.x) (by omega) (by omega)) hb56 ?_
     refine .k 1 (fun fs59 hfs59 => ?_)
     refine .f x2 hb144 ?_
     refine .f x3 hb143 ?_
     refine .k 1 (fun fs60 hfs60 => ?_)
     refine .r 12 (by simp only[ln, hfs56, hfs57, hfs58, hfs59, hfs60];omega) ?_
     refine hK55 _ ?_
     refine .sq fun K61 hK61 => ?_
     refine .d 12 ?_
     refine .k 3 (fun fs62 hfs62 => ?_)
     refine .f (l1Int_fc u.a.y (by omega) (by omega)) hb56 ?_
     refine .k 1 (fun fs63 hfs63 => ?_)
     refine .f y1 hb144 ?_
     refine .k 1 (fun fs64 hfs64 => ?_)
     refine .f (l1Int_fc (u.b.y - u.a.y) (by omega) (by omega)) hb56 ?_
     refine .k 1 (fun fs65 hfs65 => ?_)
     refine .f y2 hb144 ?_
     refine .f y3 hb143 ?_
     refine .k 1 (fun fs66 hfs66 => ?_)
     refine .r 12 (by simp only[ln, hfs62, hfs63, hfs64, hfs65, hfs66];omega) ?_
     refine hK61 _ ?_
     refine .sq fun K67 hK67 => ?_
     refine .region ?_
     refine .kf 3 l3 hb145 ?_
     refine .e ?_
     refine hK67 _ ?_
     refine .ret ?_
     exact hK _ _ _ _ trivial ((Fin.m).cast (by rw [hl4]; rfl))
   ·refine .r ?_ (by simp (disch := first|omega|(simp only[ln];omega)) [q3]; rfl)
    refine hK47 _ ?_
    refine .c (fun h95 => ?_) (fun h95 => ?_)
    ·try simp only[dc]at h95
     have hw : noWay u v = true := by rw [hnw, q3]; rfl
     refine .q ?_
     refine .ret ?_
     exact hK _ _ _ _ trivial ((Fin.m).cast (by unfold l4V; rw [hA, hB, if_neg h0, if_pos hw]; try rfl))
    ·simp at h95
end

end Go.Proofs.Ytdcajfgeleopiaa

/- Walks: rings, by the program. -/
namespace Go.Proofs.Ytdcajfgeleopiaa
open Go Go.RowKit
set_option linter.unusedSimpArgs false
set_option linter.unusedVariables false
set_option maxRecDepth 100000
attribute [local simp] szT2 byT2 agT2 unT2 zoT2 szT3 byT3 agT3 unT3 zoT3 szT26 byT26 agT26 flT26 fdT26_0 fdT26_1 fdT26_2 fdT26_3 zoT26 szT39 byT39 agT39 elT39 unT39 zoT39 szT41 byT41 agT41 elT41 unT41 zoT41 szT43 byT43 agT43 flT43 fdT43_0 zoT43 szT51 byT51 agT51 flT51 fdT51_0 fdT51_1 fdT51_2 zoT51 szT102 byT102 agT102 flT102 fdT102_0 fdT102_1 zoT102 szT104 byT104 agT104 flT104 fdT104_0 fdT104_1 zoT104

theorem rg_at {r : List Sp} {i : Nat} (h : i < r.length) : (r.map Sp.cells)[i]? = some [.int .i64 (gs r i).x, .int .i64 (gs r i).y] := by rw [List.getElem?_map, gs_get h]; rfl
theorem sds_at {r : List Sp} {i : Nat} (h : i < r.length) : ((sds r).map Sg.cells)[i]? = some [.int .i64 (sd r i).a.x, .int .i64 (sd r i).a.y, .int .i64 (sd r i).b.x, .int .i64 (sd r i).b.y] := by rw [List.getElem?_map, sds_get h]; rfl
theorem sds_take {r : List Sp} {i : Nat} (h : i < r.length) : ((sds r).take (i + 1)).map Sg.cells = ((sds r).take i).map Sg.cells ++ [[.int .i64 (segO (gs r i) (nx1 r i)).a.x, .int .i64 (segO (gs r i) (nx1 r i)).a.y, .int .i64 (segO (gs r i) (nx1 r i)).b.x, .int .i64 (segO (gs r i) (nx1 r i)).b.y]] := by
  rw [List.take_add_one, sds_get h]; simp [Sg.cells, sd]
theorem ite_tmod {n k : Nat} (h : k < n) : Int.tmod ((k : Int) + 1) (n : Int) = (((k + 1) % n : Nat) : Int) := (Int.ofNat_tmod (k + 1) n).symm

section
attribute [local simp] Sp.av Sp.cells Sg.av Sg.cells
theorem indexSp_fc (l : List Sp) (p : Sp) (hl : l.length ≤ 9223372036854775800) : FC Try.prog 92 [.isl (l.map Sp.cells), p.av] (.int .i64 (ixI l p : Int)) := by
 refine .b Try.func92 19 (fun nx K hK => ?_) (hi := by simp [idfL, idf, idfLL_iff, Sp.av, Sp.cells, Sg.av, Sg.cells])
 refine .q ?_
 refine .sq fun K2 hK2 => ?_
 refine .q ?_ (by simp (disch := first|omega|(simp only[ln];omega)) [List.length_map]; rfl)
 refine .block ?_
 
 refine .loop (fun N s => ∃ i : Nat, N = l.length - i ∧ i ≤ l.length ∧ (ixI l p = ixGo (l.drop i) i p) ∧ s.env 0 = .isl (l.map Sp.cells) ∧ s.env 3 = .ptr nx 0 0 ∧ s.env 7 = .int .i64 (l.length : Int) ∧ s.env 8 = .int .i64 (i : Int) ∧ s.heap nx = some (2, [[.int .i64 p.x, .int .i64 p.y]]) ∧ nx < s.nx ∧ s.nt = 19) (l.length) (by refine ⟨0, by omega, by omega, rfl, ?_, ?_, ?_, ?_, ?_, ?_, rfl⟩ <;> first|(simp (disch := omega);done)|omega|(simp;done)|(simp;omega)) ?_
 rintro N ⟨e, H, mm, nt⟩ ⟨i, rfl, hi, hv, g0, g3, g7, g8, Hp, xp, rfl⟩
 simp only [] at g0 g3 g7 g8 Hp xp
 refine .q ?_ (by simp (disch := first|omega|(simp only[ln];omega)) [g7, g8]; rfl)
 refine .sq fun K5 hK5 => ?_
 refine .c (fun h9 => ?_) (fun h9 => ?_)
 ·try simp only[dc]at h9
  have hi' : i < l.length := by omega
  have hat := rg_at hi'
  rw [drop_gs hi', ixGo] at hv
  refine .skip ?_
  refine hK5 _ ?_
  refine .sq fun K6 hK6 => ?_
  refine .block ?_
  refine .q ?_ (by simp (disch := first|omega|(simp only[ln];omega)) [g8]; rfl)
  refine .sq fun K8 hK8 => ?_
  refine .df 6 ?_ (by simp (disch := first|omega|(simp only[ln];omega)) [runDf.eq_def, runF1, runF2, stepF.eq_def, updo.eq_def, hupo.eq_def, opSto1.eq_def, if_pos, g0, g3, Hp, g8, hat, eqW2, List.length_map]; rfl)
  refine hK8 _ ?_
  refine .c (t := decide (p = gs l i)) (fun h16 => ?_) (fun h16 => ?_)
  ·try simp only[dc]at h16
   rw [if_pos h16.symm] at hv
   refine .q ?_
   refine .ret ?_
   exact hK _ _ _ _ trivial ((Fin.m).cast (by rw [hv]))
  ·try simp only[dc]at h16
   rw [if_neg (Ne.symm h16)] at hv
   refine .skip ?_
   refine hK6 _ ?_
   refine .r ?_ (by simp (disch := first|omega|(simp only[ln];omega)) [g8]; rfl)
   refine ⟨l.length - (i + 1), by omega, i + 1, rfl, by omega, hv, ?_, ?_, ?_, ?_, ?_, ?_, rfl⟩ <;> first|(simp (disch := omega) [g0, g3, g7, g8, Hp];done)|omega|(simp;done)|(simp;omega)
 ·try simp only[dc]at h9
  have hin : i = l.length := by omega
  rw [hin, List.drop_length, ixGo] at hv
  refine .exit ?_
  refine hK2 _ ?_
  refine .q ?_
  refine .ret ?_
  exact hK _ _ _ _ trivial ((Fin.m).cast (by rw [hv]))
theorem containsSp_fc (l : List Sp) (p : Sp) (hl : l.length ≤ 9223372036854775800) : FC Try.prog 86 [.isl (l.map Sp.cells), p.av] (.bool (decide (p ∈ l))) := by
 refine .b Try.func86 9 (fun nx K hK => ?_) (hi := by simp [idfL, idf, idfLL_iff, Sp.av, Sp.cells, Sg.av, Sg.cells])
 refine .q ?_
 refine .sq fun K2 hK2 => ?_
 refine .region ?_
 refine .kf 2 (indexSp_fc l p hl) hb92 ?_
 refine .e ?_
 refine hK2 _ ?_
 refine .ret ?_
 exact hK _ _ _ _ trivial ((Fin.m).cast (by rw [← ixI_mem]))
theorem segOf_fc (a b : Sp) : FC Try.prog 123 [a.av, b.av] (.agg [.int .i64 (segO a b).a.x, .int .i64 (segO a b).a.y, .int .i64 (segO a b).b.x, .int .i64 (segO a b).b.y]) := by
 refine .b Try.func123 15 (fun nx K hK => ?_) (hi := by simp [idfL, idf, idfLL_iff, Sp.av, Sp.cells, Sg.av, Sg.cells])
 refine .q ?_
 refine .sq fun K2 hK2 => ?_
 refine .sq fun K3 hK3 => ?_
 refine .region ?_
 refine .kf 2 (cmpSpots_fc a b) hb94 ?_
 refine .e ?_
 refine hK3 _ ?_
 refine .c (t := lsS b a) (fun h8 => ?_) (fun h8 => ?_) (by simp (disch := first|omega|(simp only[ln];omega)) [lsS_dec2])
 ·try simp only[dc]at h8
  refine .q ?_
  refine .ret ?_
  exact hK _ _ _ _ trivial ((Fin.mk (by simp (disch := omega) [aRes, aResL, aRes1]; rfl)).cast (by unfold segO; rw [if_pos h8]))
 ·try simp only[dc]at h8
  refine .skip ?_
  refine hK2 _ ?_
  refine .q ?_
  refine .ret ?_
  exact hK _ _ _ _ trivial ((Fin.mk (by simp (disch := omega) [aRes, aResL, aRes1]; rfl)).cast (by unfold segO; rw [h8]; rfl))
set_option maxHeartbeats 1000000 in
theorem sides_fc (r : List Sp) (hl : r.length ≤ 1099511627776) : FC Try.prog 69 [.agg [.isl (r.map Sp.cells)]] (.isl ((sds r).map Sg.cells)) := by
 refine .b Try.func69 32 (fun nx K hK => ?_) (hi := by simp [idfL, idf, idfLL_iff, Sp.av, Sp.cells, Sg.av, Sg.cells]) (hr := by simp [idf, idfLL_iff, Sg.cells, idfL])
 refine .q ?_
 refine .q ?_
 refine .sq fun K3 hK3 => ?_
 refine .q ?_ (by simp (disch := first|omega|(simp only[ln];omega)) [List.length_map]; rfl)
 refine .block ?_
 
 refine .loop (fun N s => ∃ i : Nat, ∃ id : Nat, N = r.length - i ∧ i ≤ r.length ∧ (nx < id) ∧ s.env 1 = .ptr nx 0 0 ∧ s.env 3 = .osl id 0 i ∧ s.env 8 = .isl (r.map Sp.cells) ∧ s.env 9 = .int .i64 (r.length : Int) ∧ s.env 10 = .int .i64 (i : Int) ∧ s.heap nx = some (1, [[.isl (r.map Sp.cells)]]) ∧ nx < s.nx ∧ s.heap id = some (4, ((sds r).take i).map Sg.cells) ∧ id < s.nx ∧ s.nt = 32) (r.length) (by refine ⟨0, nx + 1, by omega, by omega, by omega, ?_, ?_, ?_, ?_, ?_, ?_, ?_, ?_, ?_, rfl⟩ <;> first|(simp (disch := omega);done)|omega|(simp;done)|(simp;omega)) ?_
 rintro N ⟨e, H, mm, nt⟩ ⟨i, id, rfl, hi, hid, g1, g3, g8, g9, g10, Hr, xr, Ho, xo, rfl⟩
 simp only [] at g1 g3 g8 g9 g10 Hr xr Ho xo
 refine .q ?_ (by simp (disch := first|omega|(simp only[ln];omega)) [g9, g10]; rfl)
 refine .sq fun K6 hK6 => ?_
 refine .c (fun h11 => ?_) (fun h11 => ?_)
 ·try simp only[dc]at h11
  have hi' : i < r.length := by omega
  have hat := rg_at hi'
  obtain ⟨j, hj⟩ : ∃ j : Nat, j = (i + 1) % r.length := ⟨_, rfl⟩
  have hjl : j < r.length := by rw [hj]; exact nx1_lt hi'
  have htm : Int.tmod ((i : Int) + 1) (r.length : Int) = (j : Int) := by rw [hj]; exact ite_tmod hi'
  have hat2 := rg_at hjl
  have hnj : gs r j = nx1 r i := by rw [hj]; rfl
  have hst := sds_take hi'
  have hc1 : i ≤ min i (sds r).length := by rw [sds_len]; omega
  have hc2 : (i + 1) * 32 ≤ 140737488355328 := by omega
  have hc3 : i ≤ 9223372036854775806 := by omega
  have hne : ¬ r = [] := by intro h; rw [h] at hi'; simp at hi'
  have htk : ((sds r).take i).length = i := by rw [List.length_take, sds_len]; omega
  refine .skip ?_
  refine hK6 _ ?_
  refine .sq fun K7 hK7 => ?_
  refine .block ?_
  refine .q ?_ (by simp (disch := first|omega|(simp only[ln];omega)) [if_pos, g8, g10, hat, List.length_map]; rfl)
  refine AWP.drawT 14 Try.checked.mixed (by kernel_rfl) (by kernel_rfl) ?_
  simp only [List.take_succ_cons, List.take_zero, List.drop_succ_cons, List.drop_zero]
  refine .k 12 (fun fs9 hfs9 => ?_) (by simp (disch := first|omega|(simp only[ln];omega)) [runDf.eq_def, runF1, runF2, stepF.eq_def, updo.eq_def, hupo.eq_def, opSto1.eq_def, List.take_succ_cons, List.take_zero, if_pos, g1, g3, Hr, Ho, hat, hat2, htm, hne, htk, hc1, hc2, hc3, List.length_map]; rfl)
  refine .f (segOf_fc (gs r i) (gs r j)) hb123 ?_ (ha := by simp (disch := first|omega|(simp only[ln];omega)) [idf_Wd', if_pos, g1, g3, Hr, Ho, hat, hat2, htm, hne, htk, hc1, hc2, hc3, List.length_map])
  refine .k 1 (fun fs10 hfs10 => ?_) (by simp (disch := first|omega|(simp only[ln];omega)) [runDf.eq_def, runF1, runF2, stepF.eq_def, updo.eq_def, hupo.eq_def, opSto1.eq_def, List.take_succ_cons, List.take_zero, if_pos, g1, g3, Hr, Ho, hat, hat2, htm, hne, htk, hc1, hc2, hc3, List.length_map]; rfl)
  simp only [DP]
  refine AOPS.opapp (by simp (disch := first|omega|(simp only[ln];omega)) [opApp.eq_def, aSrc_isl, aSrc_osl, aSrc_nsl, aSrc_int, wd_app, wd_app2, if_pos, wd_append, wd_take, wd_drop, List.nil_append, g1, g3, Hr, Ho, hat, hat2, htm, hne, htk, hc1, hc2, hc3, List.length_map, src_Wd' (P := Try.prog) elT39]; first | rfl | exact ⟨rfl, rfl⟩ | exact ⟨rfl, rfl, rfl⟩) (by simp) (by simp) ?_
  simp only [puts_some, hdrop]
  refine .e ?_ (by simp (disch := first|omega|(simp only[ln];omega)) [if_pos, g1, g3, Hr, Ho, hat, hat2, htm, hne, htk, hc1, hc2, hc3, List.length_map]; rfl)
  refine hK7 _ ?_
  refine .r ?_ (by simp (disch := first|omega|(simp only[ln];omega)) [g10]; rfl)
  refine ⟨r.length - (i + 1), by omega, i + 1, mm + 1 + 14, rfl, by omega, by omega, ?_, ?_, ?_, ?_, ?_, ?_, ?_, ?_, ?_, rfl⟩ <;> first|(simp (disch := omega) [g1, g3, g8, g9, g10, Hr, Ho, hst, hnj, List.take_take];done)|omega|(simp;done)|(simp;omega)
 ·try simp only[dc]at h11
  have hin : i = r.length := by omega
  have htl : (sds r).take i = sds r := by rw [hin, ← sds_len r, List.take_length]
  rw [htl] at Ho
  subst hin
  refine .exit ?_
  refine hK3 _ ?_
  refine .q ?_ (by simp (disch := first|omega|(simp only[ln];omega)) [g3]; rfl)
  refine .ret ?_
  exact hK _ _ _ _ trivial (((Fin.mk (r := .osl id 0 r.length) (by simp [aRes, aResL, aRes1])).freeze (id := id) (z := 4) (es := (sds r).map Sg.cells) (by simp [Ho])).cast (by rw [fz_fill _ _ (sds_len r).symm]))
set_option maxHeartbeats 1000000 in
theorem area2I_fc (r : List Sp) (hg : spsGood r) (hl : r.length ≤ 12) : FC Try.prog 90 [.agg [.isl (r.map Sp.cells)]] (.int .i64 (area r : Int)) := by
 refine .b Try.func90 40 (fun nx K hK => ?_) (hi := by simp [idfL, idf, idfLL_iff, Sp.av, Sp.cells, Sg.av, Sg.cells])
 refine .q ?_
 refine .q ?_
 refine .sq fun K3 hK3 => ?_
 refine .q ?_ (by simp (disch := first|omega|(simp only[ln];omega)) [List.length_map]; rfl)
 refine .block ?_
 
 refine .loop (fun N s => ∃ i : Nat, N = r.length - i ∧ i ≤ r.length ∧ s.env 1 = .ptr nx 0 0 ∧ s.env 3 = .int .i64 (arS r i : Int) ∧ s.env 8 = .isl (r.map Sp.cells) ∧ s.env 9 = .int .i64 (r.length : Int) ∧ s.env 10 = .int .i64 (i : Int) ∧ s.heap nx = some (1, [[.isl (r.map Sp.cells)]]) ∧ nx < s.nx ∧ s.nt = 40) (r.length) (by refine ⟨0, by omega, by omega, ?_, ?_, ?_, ?_, ?_, ?_, ?_, rfl⟩ <;> first|(simp (disch := omega) [arS];done)|omega|(simp;done)|(simp;omega)) ?_
 rintro N ⟨e, H, mm, nt⟩ ⟨i, rfl, hi, g1, g3, g8, g9, g10, Hr, xr, rfl⟩
 simp only [] at g1 g3 g8 g9 g10 Hr xr
 refine .q ?_ (by simp (disch := first|omega|(simp only[ln];omega)) [g9, g10]; rfl)
 refine .sq fun K6 hK6 => ?_
 refine .c (fun h11 => ?_) (fun h11 => ?_)
 ·try simp only[dc]at h11
  have hi' : i < r.length := by omega
  have hat := rg_at hi'
  obtain ⟨j, hj⟩ : ∃ j : Nat, j = (i + 1) % r.length := ⟨_, rfl⟩
  have hjl : j < r.length := by rw [hj]; exact nx1_lt hi'
  have htm : Int.tmod ((i : Int) + 1) (r.length : Int) = (j : Int) := by rw [hj]; exact ite_tmod hi'
  have hat2 := rg_at hjl
  have hnj : gs r j = nx1 r i := by rw [hj]; rfl
  have hne : ¬ r = [] := by intro h; rw [h] at hi'; simp at hi'
  have tb := arS_term (hg _ (gs_mem hi')) (hg _ (gs_mem hjl))
  have sb := arS_b hg i hi
  have hst : arS r (i + 1) = arS r i + ((gs r i).x * (gs r j).y - (gs r i).y * (gs r j).x) := by rw [hnj]; rfl
  refine .skip ?_
  refine hK6 _ ?_
  refine .sq fun K7 hK7 => ?_
  refine .block ?_
  refine .q ?_ (by simp (disch := first|omega|(simp only[ln];omega)) [if_pos, g8, g10, hat, List.length_map]; rfl)
  refine .sq fun K9 hK9 => ?_
  refine .df 11 ?_ (by simp (disch := first|omega|(simp only[ln];omega)) [runDf.eq_def, runF1, runF2, stepF.eq_def, updo.eq_def, hupo.eq_def, opSto1.eq_def, if_pos, g1, Hr, hat, hat2, htm, hne, List.length_map]; rfl)
  refine hK9 _ ?_
  refine .r ?_ (by simp (disch := first|omega|(simp only[ln];omega)) [g3, hst]; rfl)
  refine hK7 _ ?_
  refine .r ?_ (by simp (disch := first|omega|(simp only[ln];omega)) [g10]; rfl)
  refine ⟨r.length - (i + 1), by omega, i + 1, rfl, by omega, ?_, ?_, ?_, ?_, ?_, ?_, ?_, rfl⟩ <;> first|(simp (disch := omega) [g1, g3, g8, g9, g10, Hr, hst];done)|omega|(simp;done)|(simp;omega)
 ·try simp only[dc]at h11
  have hin : i = r.length := by omega
  subst hin
  refine .exit ?_
  refine hK3 _ ?_
  refine .q ?_ (by simp (disch := first|omega|(simp only[ln];omega)) [g3]; rfl)
  refine .ret ?_
  exact hK _ _ _ _ trivial ((Fin.m).cast (by rfl))
set_option maxHeartbeats 4000000 in
theorem ringFaultI_fc (r : List Sp) (hl : r.length ≤ 1099511627776) : FC Try.prog 38 [.agg [.isl (r.map Sp.cells)]] (.int .i64 (rgF r : Int)) := by
 refine .b Try.func38 103 (fun nx K hK => ?_) (hi := by simp [idfL, idf, idfLL_iff, Sp.av, Sp.cells, Sg.av, Sg.cells])
 refine .q ?_
 refine .q ?_ (by simp (disch := first|omega|(simp only[ln];omega)) [List.length_map]; rfl)
 refine .sq fun K3 hK3 => ?_
 refine .block ?_
 refine .q ?_
 refine .c (t := decide ((r.length : Int) < 3)) (fun h20 => ?_) (fun h20 => ?_)
 ·try simp only[dc]at h20
  refine .q ?_
  refine .ret ?_
  exact hK _ _ _ _ trivial ((Fin.m).cast (by rw [rgF_few (by omega)]))
 ·try simp only[dc]at h20
  refine .q ?_
  refine .c (t := decide (12 < (r.length : Int))) (fun h23 => ?_) (fun h23 => ?_)
  ·try simp only[dc]at h23
   refine .q ?_
   refine .ret ?_
   exact hK _ _ _ _ trivial ((Fin.m).cast (by rw [rgF_many (by omega)]))
  ·try simp only[dc]at h23
   have h3 : ¬ r.length < 3 := by omega
   have h12 : ¬ 12 < r.length := by omega
   refine .skip ?_
   refine hK3 _ ?_
   refine .sq fun K8 hK8 => ?_
   refine .q ?_ (by simp (disch := first|omega|(simp only[ln];omega)) [List.length_map]; rfl)
   refine .block ?_
   
   refine .loop (fun N s => ∃ i : Nat, N = r.length - i ∧ i ≤ r.length ∧ (∀ j, j < i → (gs r j).good = true) ∧ s.env 1 = .ptr nx 0 0 ∧ s.env 3 = .int .i64 (r.length : Int) ∧ s.env 27 = .isl (r.map Sp.cells) ∧ s.env 28 = .int .i64 (r.length : Int) ∧ s.env 29 = .int .i64 (i : Int) ∧ s.heap nx = some (1, [[.isl (r.map Sp.cells)]]) ∧ nx < s.nx ∧ s.nt = 103) (r.length) (by refine ⟨0, by omega, by omega, fun j h => by omega, ?_, ?_, ?_, ?_, ?_, ?_, ?_, rfl⟩ <;> first|(simp (disch := omega);done)|omega|(simp;done)|(simp;omega)) ?_
   rintro N ⟨e, H, mm, nt⟩ ⟨i, rfl, hi, hgd, g1, g3, g27, g28, g29, Hr, xr, rfl⟩
   simp only [] at g1 g3 g27 g28 g29 Hr xr
   refine .q ?_ (by simp (disch := first|omega|(simp only[ln];omega)) [g28, g29]; rfl)
   refine .sq fun K11 hK11 => ?_
   refine .c (fun h30 => ?_) (fun h30 => ?_)
   ·try simp only[dc]at h30
    have hi' : i < r.length := by omega
    have hat := rg_at hi'
    refine .skip ?_
    refine hK11 _ ?_
    refine .sq fun K12 hK12 => ?_
    refine .block ?_
    refine .q ?_ (by simp (disch := first|omega|(simp only[ln];omega)) [if_pos, g27, g29, hat, List.length_map]; rfl)
    refine .sq fun K14 hK14 => ?_
    refine .region ?_
    refine .kf 1 (spotOkI_fc (gs r i)) hb85 ?_
    refine .e ?_
    refine hK14 _ ?_
    refine .c (t := !(gs r i).good) (fun h35 => ?_) (fun h35 => ?_)
    ·try simp only[dc]at h35
     have hb : ¬ (gs r i).good = true := by simpa using h35
     refine .q ?_
     refine .ret ?_
     exact hK _ _ _ _ trivial ((Fin.m).cast (by rw [rgF_coord h3 h12 (gs_mem hi') hb]))
    ·try simp only[dc]at h35
     have hg1 : (gs r i).good = true := by simpa using h35
     refine .skip ?_
     refine hK12 _ ?_
     refine .r ?_ (by simp (disch := first|omega|(simp only[ln];omega)) [g29]; rfl)
     refine ⟨r.length - (i + 1), by omega, i + 1, rfl, by omega, fun j h => by rcases Nat.lt_succ_iff_lt_or_eq.1 h with h | h; exact hgd j h; rw [h]; exact hg1, ?_, ?_, ?_, ?_, ?_, ?_, ?_, rfl⟩ <;> first|(simp (disch := omega) [g1, g3, g27, g28, g29, Hr];done)|omega|(simp;done)|(simp;omega)
   ·try simp only[dc]at h30
    have hG : spsGood r := spsGood_of (by omega) hgd
    clear hgd
    refine .exit ?_
    refine hK8 _ ?_
    refine .sq fun K16 hK16 => ?_
    refine .q ?_ (by simp (disch := first|omega|(simp only[ln];omega)) [g1, Hr, List.length_map]; rfl)
    refine .block ?_
    
    refine .loop (fun N s => ∃ i : Nat, N = r.length - i ∧ i ≤ r.length ∧ (∀ j k, k < j → j < i → gs r j ≠ gs r k) ∧ s.env 1 = .ptr nx 0 0 ∧ s.env 3 = .int .i64 (r.length : Int) ∧ s.env 38 = .isl (r.map Sp.cells) ∧ s.env 39 = .int .i64 (r.length : Int) ∧ s.env 40 = .int .i64 (i : Int) ∧ s.heap nx = some (1, [[.isl (r.map Sp.cells)]]) ∧ nx < s.nx ∧ s.nt = 103) (r.length) (by refine ⟨0, by omega, by omega, fun j k h h' => by omega, ?_, ?_, ?_, ?_, ?_, ?_, ?_, rfl⟩ <;> first|(simp (disch := omega) [g1, g3, Hr];done)|omega|(simp;done)|(simp;omega)) ?_
    clear g1 g3 g27 g28 g29 Hr
    rintro N ⟨e, H, mm, nt⟩ ⟨i, rfl, hi, hnd, g1, g3, g38, g39, g40, Hr, xr, rfl⟩
    simp only [] at g1 g3 g38 g39 g40 Hr xr
    refine .q ?_ (by simp (disch := first|omega|(simp only[ln];omega)) [g39, g40]; rfl)
    refine .sq fun K19 hK19 => ?_
    refine .c (fun h41 => ?_) (fun h41 => ?_)
    ·try simp only[dc]at h41
     have hi' : i < r.length := by omega
     have hat := rg_at hi'
     refine .skip ?_
     refine hK19 _ ?_
     refine .sq fun K20 hK20 => ?_
     refine .block ?_
     refine .q ?_ (by simp (disch := first|omega|(simp only[ln];omega)) [if_pos, g38, g40, hat, List.length_map]; rfl)
     refine .sq fun K22 hK22 => ?_
     refine .d 6 ?_
     refine .k 5 (fun fs23 hfs23 => ?_) (by simp (disch := first|omega|(simp only[ln];omega)) [runDf.eq_def, runF1, runF2, stepF.eq_def, updo.eq_def, hupo.eq_def, opSto1.eq_def, List.take_succ_cons, List.take_zero, if_pos, g1, Hr, hi, List.map_take, List.length_map]; rfl)
     refine .f (containsSp_fc (r.take i) (gs r i) (by rw [List.length_take]; omega)) hb86 ?_ (ha := by simp (disch := first|omega|(simp only[ln];omega)) [idf_Wd', if_pos, g1, Hr, hi, List.map_take, List.length_map])
     refine .r 6 (by simp only[ln, hfs23];omega) ?_ (by simp (disch := first|omega|(simp only[ln];omega)) [runDf.eq_def, runF1, runF2, stepF.eq_def, updo.eq_def, hupo.eq_def, opSto1.eq_def, if_pos, g1, Hr, hi, List.map_take, List.length_map]; rfl)
     refine hK22 _ ?_
     refine .c (t := decide (gs r i ∈ r.take i)) (fun h50 => ?_) (fun h50 => ?_)
     ·try simp only[dc]at h50
      obtain ⟨k, hk, he⟩ := (take_gs hi).1 h50
      refine .q ?_
      refine .ret ?_
      exact hK _ _ _ _ trivial ((Fin.m).cast (by rw [rgF_twice h3 h12 hG ⟨i, k, hk, hi', he.symm⟩]))
     ·try simp only[dc]at h50
      have hn1 : ∀ k, k < i → gs r i ≠ gs r k := fun k hk he => h50 ((take_gs hi).2 ⟨k, hk, he.symm⟩)
      refine .skip ?_
      refine hK20 _ ?_
      refine .r ?_ (by simp (disch := first|omega|(simp only[ln];omega)) [g40]; rfl)
      refine ⟨r.length - (i + 1), by omega, i + 1, rfl, by omega, fun j k h h' => by rcases Nat.lt_succ_iff_lt_or_eq.1 h' with h' | h'; exact hnd j k h h'; rw [h']; exact hn1 k (by omega), ?_, ?_, ?_, ?_, ?_, ?_, ?_, rfl⟩ <;> first|(simp (disch := omega) [g1, g3, g38, g39, g40, Hr];done)|omega|(simp;done)|(simp;omega)
    ·try simp only[dc]at h41
     have hD : ¬ rgDup r := by rintro ⟨j, k, q1, q2, q3⟩; exact hnd j k q1 (by omega) q3
     clear hnd
     refine .exit ?_
     refine hK16 _ ?_
     refine .sq fun K25 hK25 => ?_
     refine .region ?_
     refine .kf 1 (sides_fc r hl) hb69 ?_ (by simp (disch := first|omega|(simp only[ln];omega)) [List.take_succ_cons, List.take_zero, g1, Hr]; rfl) (ha := by simp (disch := first|omega|(simp only[ln];omega)) [idf_Wd', g1, Hr])
     refine .e ?_ (by simp (disch := first|omega|(simp only[ln];omega)) [g1, Hr]; rfl)
     refine hK25 _ ?_
     refine .sq fun K26 hK26 => ?_
     refine .q ?_ (by simp (disch := first|omega|(simp only[ln];omega)) [sds_len, List.length_map]; rfl)
     refine .block ?_
     
     refine .loop (fun N s => ∃ i : Nat, N = r.length - i ∧ i ≤ r.length ∧ (∀ j k, k < j → j < i → ¬ badS r j k) ∧ s.env 3 = .int .i64 (r.length : Int) ∧ s.env 8 = .isl ((sds r).map Sg.cells) ∧ s.env 54 = .isl ((sds r).map Sg.cells) ∧ s.env 55 = .int .i64 (r.length : Int) ∧ s.env 56 = .int .i64 (i : Int) ∧ s.nt = 103) (r.length) (by refine ⟨0, by omega, by omega, fun j k h h' => by omega, ?_, ?_, ?_, ?_, ?_, rfl⟩ <;> first|(simp (disch := omega) [g3];done)|omega|(simp;done)|(simp;omega)) ?_
     clear g1 g3 g38 g39 g40 Hr
     rintro N ⟨e, H, mm, nt⟩ ⟨i, rfl, hi, hok, g3, g8, g54, g55, g56, rfl⟩
     simp only [] at g3 g8 g54 g55 g56
     refine .q ?_ (by simp (disch := first|omega|(simp only[ln];omega)) [g55, g56]; rfl)
     refine .sq fun K29 hK29 => ?_
     refine .c (fun h57 => ?_) (fun h57 => ?_)
     ·try simp only[dc]at h57
      have hi' : i < r.length := by omega
      have hat := sds_at hi'
      have gi := sd_good (by omega) hG hD hi'
      refine .skip ?_
      refine hK29 _ ?_
      refine .sq fun K30 hK30 => ?_
      refine .block ?_
      refine .q ?_ (by simp (disch := first|omega|(simp only[ln];omega)) [if_pos, g54, g56, hat, sds_len, List.length_map]; rfl)
      refine .q ?_ (by simp (disch := first|omega|(simp only[ln];omega)) [if_pos, g8, hi, sds_len, List.length_take, Nat.min_eq_left, List.length_map]; rfl)
      refine .block ?_
      
      refine .loop (fun N s => ∃ k : Nat, ∃ id : Nat, N = i - k ∧ k ≤ i ∧ (∀ k', k' < k → ¬ badS r i k') ∧ s.env 3 = .int .i64 (r.length : Int) ∧ s.env 8 = .isl ((sds r).map Sg.cells) ∧ s.env 9 = .int .i64 (i : Int) ∧ s.env 10 = .ptr id 0 0 ∧ s.env 54 = .isl ((sds r).map Sg.cells) ∧ s.env 55 = .int .i64 (r.length : Int) ∧ s.env 56 = .int .i64 (i : Int) ∧ s.env 63 = .isl ((sds r).map Sg.cells |>.take i) ∧ s.env 64 = .int .i64 (i : Int) ∧ s.env 65 = .int .i64 (k : Int) ∧ s.heap id = some (4, [[.int .i64 (sd r i).a.x, .int .i64 (sd r i).a.y, .int .i64 (sd r i).b.x, .int .i64 (sd r i).b.y]]) ∧ id < s.nx ∧ s.nt = 103) (i) (by refine ⟨0, mm, by omega, by omega, fun j h => by omega, ?_, ?_, ?_, ?_, ?_, ?_, ?_, ?_, ?_, ?_, ?_, ?_, rfl⟩ <;> first|(simp (disch := omega) [g3, g8, g54, g55, g56];done)|omega|(simp;done)|(simp;omega)) ?_
      clear g3 g8 g54 g55 g56
      rintro N ⟨e, H, mm, nt⟩ ⟨k, id, rfl, hk, hk2, g3, g8, g9, g10, g54, g55, g56, g63, g64, g65, Hs, xs, rfl⟩
      simp only [] at g3 g8 g9 g10 g54 g55 g56 g63 g64 g65 Hs xs
      refine .q ?_ (by simp (disch := first|omega|(simp only[ln];omega)) [g64, g65]; rfl)
      refine .sq fun K34 hK34 => ?_
      refine .c (fun h66 => ?_) (fun h66 => ?_)
      ·try simp only[dc]at h66
       have hk' : k < i := by omega
       have hki : k < r.length := by omega
       have hatk := sds_at hki
       have gk := sd_good (by omega) hG hD hki
       have hmt := meetI_fc (sd r i) (sd r k) gi gk
       obtain ⟨M, hM⟩ : ∃ M, meetI (sd r i) (sd r k) = M := ⟨_, rfl⟩
       rw [hM] at hmt
       have hbd : badS r i k ↔ (M.1 = 2 ∨ (M.1 = 1 ∧ ¬ nxt r.length i k)) := by unfold badS mkd; rw [hM]
       refine .skip ?_
       refine hK34 _ ?_
       refine .sq fun K35 hK35 => ?_
       refine .block ?_
       refine .q ?_ (by simp (disch := first|omega|(simp only[ln];omega)) [if_pos, g63, g65, hk', hatk, sds_len, List.getElem?_take, List.length_take, List.length_map]; rfl)
       refine .sq fun K37 hK37 => ?_
       refine .region ?_
       refine .kf 2 hmt hb87 ?_ (by simp (disch := first|omega|(simp only[ln];omega)) [List.take_succ_cons, List.take_zero, g10, Hs]; rfl) (ha := by simp (disch := first|omega|(simp only[ln];omega)) [idf_Wd', g10, Hs])
       refine .e ?_ (by simp (disch := first|omega|(simp only[ln];omega)) [g10, Hs]; rfl)
       refine hK37 _ ?_
       refine .sq fun K38 hK38 => ?_
       have J38 : ∀ s : St, (∃ nb : Bool, (nb = true ↔ nxt r.length i k) ∧ s.env 3 = .int .i64 (r.length : Int) ∧ s.env 8 = .isl ((sds r).map Sg.cells) ∧ s.env 9 = .int .i64 (i : Int) ∧ s.env 10 = .ptr id 0 0 ∧ s.env 54 = .isl ((sds r).map Sg.cells) ∧ s.env 55 = .int .i64 (r.length : Int) ∧ s.env 56 = .int .i64 (i : Int) ∧ s.env 63 = .isl ((sds r).map Sg.cells |>.take i) ∧ s.env 64 = .int .i64 (i : Int) ∧ s.env 65 = .int .i64 (k : Int) ∧ s.env 11 = .int .i64 (k : Int) ∧ s.env 13 = .int .i64 (M.1 : Int) ∧ s.env 16 = .bool nb ∧ s.heap id = some (4, [[.int .i64 (sd r i).a.x, .int .i64 (sd r i).a.y, .int .i64 (sd r i).b.x, .int .i64 (sd r i).b.y]]) ∧ id < s.nx ∧ s.nt = 103) → K38 s := by
        clear g3 g8 g9 g10 g54 g55 g56 g63 g64 g65 Hs xs
        rintro ⟨e, H, mm, nt⟩ ⟨nb, hnb, g3, g8, g9, g10, g54, g55, g56, g63, g64, g65, g11, g13, g16, Hs, xs, rfl⟩
        simp only [] at g3 g8 g9 g10 g54 g55 g56 g63 g64 g65 g11 g13 g16 Hs xs
        refine hK38 _ ?_
        refine .sq fun K39 hK39 => ?_
        by_cases m2 : M.1 = 2
        ·have d2 : (M.1 == 2) = true := by simp [m2]
         refine .r ?_ (by simp (disch := first|omega|(simp only[ln];omega)) [g13, g16, d2]; rfl)
         refine hK39 _ ?_
         refine .c (fun h100 => ?_) (fun h100 => ?_)
         ·try simp only[dc]at h100
          have hbad : badS r i k := hbd.2 (.inl m2)
          refine .q ?_
          refine .ret ?_
          exact hK _ _ _ _ trivial ((Fin.m).cast (by rw [rgF_cross h3 h12 hG hD ⟨i, k, hk', hi', hbad⟩]))
         ·simp at h100
        ·have d2 : (M.1 == 2) = false := by simp [m2]
         by_cases m1 : M.1 = 1
         ·have d1 : (M.1 == 1) = true := by simp [m1]
          refine .r ?_ (by simp (disch := first|omega|(simp only[ln];omega)) [g13, g16, d2, d1]; rfl)
          refine hK39 _ ?_
          refine .c (t := !nb) (fun h100 => ?_) (fun h100 => ?_)
          ·try simp only[dc]at h100
           have hf : nb = false := by simpa using h100
           have hbad : badS r i k := hbd.2 (.inr ⟨m1, fun h => by rw [hnb.2 h] at hf; simp at hf⟩)
           refine .q ?_
           refine .ret ?_
           exact hK _ _ _ _ trivial ((Fin.m).cast (by rw [rgF_cross h3 h12 hG hD ⟨i, k, hk', hi', hbad⟩]))
          ·try simp only[dc]at h100
           have hf : nb = true := by simpa using h100
           have hnbad : ¬ badS r i k := fun h => by rcases hbd.1 h with h | h; exact m2 h; exact h.2 (hnb.1 hf)
           refine .skip ?_
           refine hK35 _ ?_
           refine .r ?_ (by simp (disch := first|omega|(simp only[ln];omega)) [g65]; rfl)
           refine ⟨i - (k + 1), by omega, k + 1, id, rfl, by omega, fun j h => by rcases Nat.lt_succ_iff_lt_or_eq.1 h with h | h; exact hk2 j h; rw [h]; exact hnbad, ?_, ?_, ?_, ?_, ?_, ?_, ?_, ?_, ?_, ?_, ?_, ?_, rfl⟩ <;> first|(simp (disch := omega) [g3, g8, g9, g10, g54, g55, g56, g63, g64, g65, Hs];done)|omega|(simp;done)|(simp;omega)
         ·have d1 : (M.1 == 1) = false := by simp [m1]
          refine .r ?_ (by simp (disch := first|omega|(simp only[ln];omega)) [g13, g16, d2, d1]; rfl)
          refine hK39 _ ?_
          refine .c (fun h100 => ?_) (fun h100 => ?_)
          ·simp at h100
          ·try simp only[dc]at h100
           have hnbad : ¬ badS r i k := fun h => by rcases hbd.1 h with h | h; exact m2 h; exact m1 h.1
           refine .skip ?_
           refine hK35 _ ?_
           refine .r ?_ (by simp (disch := first|omega|(simp only[ln];omega)) [g65]; rfl)
           refine ⟨i - (k + 1), by omega, k + 1, id, rfl, by omega, fun j h => by rcases Nat.lt_succ_iff_lt_or_eq.1 h with h | h; exact hk2 j h; rw [h]; exact hnbad, ?_, ?_, ?_, ?_, ?_, ?_, ?_, ?_, ?_, ?_, ?_, ?_, rfl⟩ <;> first|(simp (disch := omega) [g3, g8, g9, g10, g54, g55, g56, g63, g64, g65, Hs];done)|omega|(simp;done)|(simp;omega)
       by_cases q1 : (k : Int) = (i : Int) - 1
       ·have c1 : ((k : Int) == (i : Int) - 1) = true := by simp [q1]
        refine .r ?_ (by simp (disch := first|omega|(simp only[ln];omega)) [g3, g8, g9, g10, g54, g55, g56, g63, g64, g65, Hs, c1]; rfl)
        refine J38 _ ?_
        refine ⟨true, ⟨fun _ => .inl (by omega), fun _ => rfl⟩, ?_, ?_, ?_, ?_, ?_, ?_, ?_, ?_, ?_, ?_, ?_, ?_, ?_, ?_, ?_, rfl⟩ <;> first|(simp (disch := omega) [g3, g8, g9, g10, g54, g55, g56, g63, g64, g65, Hs];done)|omega|(simp;done)|(simp;omega)
       ·have c1 : ((k : Int) == (i : Int) - 1) = false := by simp [q1]
        by_cases q2 : k = 0
        ·have c2 : ((k : Int) == 0) = true := by simp [q2]
         have c2' : (k == 0) = true := by simp [q2]
         by_cases q3 : (i : Int) = (r.length : Int) - 1
         ·have c3 : ((i : Int) == (r.length : Int) - 1) = true := by simp [q3]
          refine .r ?_ (by simp (disch := first|omega|(simp only[ln];omega)) [g3, g8, g9, g10, g54, g55, g56, g63, g64, g65, Hs, c1, c2, c2', c3]; rfl)
          refine J38 _ ?_
          refine ⟨true, ⟨fun _ => .inr ⟨by omega, by omega⟩, fun _ => rfl⟩, ?_, ?_, ?_, ?_, ?_, ?_, ?_, ?_, ?_, ?_, ?_, ?_, ?_, ?_, ?_, rfl⟩ <;> first|(simp (disch := omega) [g3, g8, g9, g10, g54, g55, g56, g63, g64, g65, Hs];done)|omega|(simp;done)|(simp;omega)
         ·have c3 : ((i : Int) == (r.length : Int) - 1) = false := by simp [q3]
          refine .r ?_ (by simp (disch := first|omega|(simp only[ln];omega)) [g3, g8, g9, g10, g54, g55, g56, g63, g64, g65, Hs, c1, c2, c2', c3]; rfl)
          refine J38 _ ?_
          refine ⟨false, ⟨fun h => by simp at h, fun h => by rcases h with h | ⟨h, h'⟩ <;> omega⟩, ?_, ?_, ?_, ?_, ?_, ?_, ?_, ?_, ?_, ?_, ?_, ?_, ?_, ?_, ?_, rfl⟩ <;> first|(simp (disch := omega) [g3, g8, g9, g10, g54, g55, g56, g63, g64, g65, Hs];done)|omega|(simp;done)|(simp;omega)
        ·have c2 : ((k : Int) == 0) = false := by simp; omega
         have c2' : (k == 0) = false := by simp; omega
         refine .r ?_ (by simp (disch := first|omega|(simp only[ln];omega)) [g3, g8, g9, g10, g54, g55, g56, g63, g64, g65, Hs, c1, c2, c2']; rfl)
         refine J38 _ ?_
         refine ⟨false, ⟨fun h => by simp at h, fun h => by rcases h with h | ⟨h, h'⟩ <;> omega⟩, ?_, ?_, ?_, ?_, ?_, ?_, ?_, ?_, ?_, ?_, ?_, ?_, ?_, ?_, ?_, rfl⟩ <;> first|(simp (disch := omega) [g3, g8, g9, g10, g54, g55, g56, g63, g64, g65, Hs];done)|omega|(simp;done)|(simp;omega)
      ·try simp only[dc]at h66
       have hn1 : ∀ k', k' < i → ¬ badS r i k' := fun k' h => hk2 k' (by omega)
       refine .exit ?_
       refine hK30 _ ?_
       refine .r ?_ (by simp (disch := first|omega|(simp only[ln];omega)) [g56]; rfl)
       refine ⟨r.length - (i + 1), by omega, i + 1, rfl, by omega, fun j k h h' => by rcases Nat.lt_succ_iff_lt_or_eq.1 h' with h' | h'; exact hok j k h h'; rw [h']; exact hn1 k (by omega), ?_, ?_, ?_, ?_, ?_, rfl⟩ <;> first|(simp (disch := omega) [g3, g8, g54, g55, g56];done)|omega|(simp;done)|(simp;omega)
     ·try simp only[dc]at h57
      have hX : ¬ rgX r := by rintro ⟨j, k, q1, q2, q3⟩; exact hok j k q1 (by omega) q3
      refine .exit ?_
      refine hK26 _ ?_
      refine .q ?_
      refine .ret ?_
      exact hK _ _ _ _ trivial ((Fin.m).cast (by rw [rgF_ok h3 h12 hG hD hX]))
theorem isRing_fc (r : List Sp) (hl : r.length ≤ 1099511627776) : FC Try.prog 68 [.agg [.isl (r.map Sp.cells)]] (.bool (decide (rgF r = 0))) := by
 refine .b Try.func68 6 (fun nx K hK => ?_) (hi := by simp [idfL, idf, idfLL_iff, Sp.av, Sp.cells, Sg.av, Sg.cells])
 refine .q ?_
 refine .sq fun K2 hK2 => ?_
 refine .region ?_
 refine .kf 1 (ringFaultI_fc r hl) hb38 ?_
 refine .e ?_
 refine hK2 _ ?_
 refine .ret ?_
 exact hK _ _ _ _ trivial ((Fin.m).cast (by rw [beqdI]))
theorem ringArea2I_fc (r : List Sp) (hl : r.length ≤ 1099511627776) : FC Try.prog 40 [.agg [.isl (r.map Sp.cells)]] (.int .i64 (rgA r : Int)) := by
 refine .b Try.func40 8 (fun nx K hK => ?_) (hi := by simp [idfL, idf, idfLL_iff, Sp.av, Sp.cells, Sg.av, Sg.cells])
 refine .q ?_
 refine .sq fun K2 hK2 => ?_
 refine .sq fun K3 hK3 => ?_
 refine .region ?_
 refine .kf 1 (isRing_fc r hl) hb68 ?_
 refine .e ?_
 refine hK3 _ ?_
 refine .c (t := !decide (rgF r = 0)) (fun h5 => ?_) (fun h5 => ?_)
 ·try simp only[dc]at h5
  have hn : ¬ rgF r = 0 := by simpa using h5
  refine .q ?_
  refine .ret ?_
  exact hK _ _ _ _ trivial ((Fin.m).cast (by unfold rgA; rw [if_neg hn]))
 ·try simp only[dc]at h5
  have hz : rgF r = 0 := by simpa using h5
  obtain ⟨z1, z2, z3, _, _⟩ := rgF_zero hz
  refine .skip ?_
  refine hK2 _ ?_
  refine .sq fun K5 hK5 => ?_
  refine .region ?_
  refine .kf 1 (area2I_fc r z3 z2) hb90 ?_
  refine .e ?_
  refine hK5 _ ?_
  refine .ret ?_
  exact hK _ _ _ _ trivial ((Fin.m).cast (by unfold rgA; rw [if_pos hz]))
end

end Go.Proofs.Ytdcajfgeleopiaa

/- Walks: rings, by the reference. -/
namespace Go.Proofs.Ytdcajfgeleopiaa
open Go Go.RowKit
set_option linter.unusedSimpArgs false
set_option linter.unusedVariables false
set_option maxRecDepth 100000
attribute [local simp] szT2 byT2 agT2 unT2 zoT2 szT3 byT3 agT3 unT3 zoT3 szT41 byT41 agT41 elT41 unT41 zoT41 szT43 byT43 agT43 flT43 fdT43_0 zoT43 szT80 byT80 agT80 flT80 fdT80_0 fdT80_1 zoT80 szT102 byT102 agT102 flT102 fdT102_0 fdT102_1 zoT102 szT104 byT104 agT104 flT104 fdT104_0 fdT104_1 zoT104 szT113 byT113 agT113 flT113 fdT113_0 fdT113_1 fdT113_2 zoT113

theorem l4V_k {u v : Sg} (gu : u.good = true) (gv : v.good = true) : ∃ (b1 b2 b3 c1 c2 c3 : Bool) (s1 s2 s3 t1 t2 t3 : AV), l4V u v = .tup [.int .i64 (meetI u v).1, .agg [.bool b1, s1, .bool b2, s2, .bool b3, s3], .agg [.bool c1, t1, .bool c2, t2, .bool c3, t3]] ∧ avOne s1 = true ∧ avOne s2 = true ∧ avOne s3 = true ∧ avOne t1 = true ∧ avOne t2 = true ∧ avOne t3 = true := by
  have e := meet_eq gu gv
  rw [e]
  unfold l4V meetS linP z3 l3A l3C
  have ow : ∀ x, avOne (Wd .u32 (dg x)) = true := fun x => rfl
  have on : avOne .nsl = true := rfl
  by_cases h0 : crs u.a u.b v.a = 0 ∧ crs u.a u.b v.b = 0
  · rw [if_pos h0, if_pos h0]
    by_cases h1 : lsS (highS u v) (lowS u v) = true
    · rw [if_pos h1, if_pos h1]; exact ⟨_, _, _, _, _, _, _, _, _, _, _, _, rfl, on, on, on, on, on, on⟩
    · rw [if_neg h1, if_neg h1]
      by_cases h2 : lowS u v = highS u v
      · rw [if_pos h2, if_pos h2]; exact ⟨_, _, _, _, _, _, _, _, _, _, _, _, rfl, ow _, ow _, ow _, on, on, on⟩
      · rw [if_neg h2, if_neg h2]; exact ⟨_, _, _, _, _, _, _, _, _, _, _, _, rfl, ow _, ow _, ow _, ow _, ow _, ow _⟩
  · rw [if_neg h0, if_neg h0]
    by_cases h1 : noWay u v = true
    · rw [if_pos h1, if_pos h1]; exact ⟨_, _, _, _, _, _, _, _, _, _, _, _, rfl, on, on, on, on, on, on⟩
    · rw [if_neg h1, if_neg h1]; exact ⟨_, _, _, _, _, _, _, _, _, _, _, _, rfl, ow _, ow _, ow _, on, on, on⟩

section
attribute [local simp] Sp.av Sp.cells Sg.av Sg.cells
set_option maxHeartbeats 1000000 in
theorem l5Side_fc (r : List Sp) (i : Nat) (hi' : i < r.length) (hl : r.length ≤ 1099511627776) : FC Try.prog 66 [.agg [.isl (r.map Sp.cells)], .int .i64 (i : Int)] (.agg [.int .i64 (sd r i).a.x, .int .i64 (sd r i).a.y, .int .i64 (sd r i).b.x, .int .i64 (sd r i).b.y]) := by
 have hat := rg_at hi'
 obtain ⟨j, hj⟩ : ∃ j : Nat, j = (i + 1) % r.length := ⟨_, rfl⟩
 have hjl : j < r.length := by rw [hj]; exact nx1_lt hi'
 have htm : Int.tmod ((i : Int) + 1) (r.length : Int) = (j : Int) := by rw [hj]; exact ite_tmod hi'
 have hat2 := rg_at hjl
 have hnj : gs r j = nx1 r i := by rw [hj]; rfl
 have hne : ¬ r = [] := by intro h; rw [h] at hi'; simp at hi'
 have hsd : sd r i = segO (gs r i) (gs r j) := by rw [hnj]; rfl
 refine .b Try.func66 31 (fun nx K hK => ?_) (hi := by simp [idfL, idf, idfLL_iff, Sp.av, Sp.cells, Sg.av, Sg.cells])
 refine .q ?_
 refine .q ?_ (by simp (disch := first|omega|(simp only[ln];omega)) [if_pos, hat, List.length_map]; rfl)
 refine .sq fun K3 hK3 => ?_
 refine .df 11 ?_ (by simp (disch := first|omega|(simp only[ln];omega)) [runDf.eq_def, runF1, runF2, stepF.eq_def, updo.eq_def, hupo.eq_def, opSto1.eq_def, if_pos, hat2, htm, hne, List.length_map]; rfl)
 refine hK3 _ ?_
 refine .sq fun K4 hK4 => ?_
 refine .sq fun K5 hK5 => ?_
 refine .region ?_
 refine .kf 2 (l4Less_fc (gs r j) (gs r i)) hb100 ?_
 refine .nil ?_
 refine hK5 _ ?_
 refine .c (t := lsS (gs r j) (gs r i)) (fun h24 => ?_) (fun h24 => ?_)
 ·try simp only[dc]at h24
  refine .q ?_
  refine .ret ?_
  exact hK _ _ _ _ trivial ((Fin.mk (by simp (disch := omega) [aRes, aResL, aRes1]; rfl)).cast (by rw [hsd]; unfold segO; rw [if_pos h24]))
 ·try simp only[dc]at h24
  refine .skip ?_
  refine hK4 _ ?_
  refine .q ?_
  refine .ret ?_
  exact hK _ _ _ _ trivial ((Fin.mk (by simp (disch := omega) [aRes, aResL, aRes1]; rfl)).cast (by rw [hsd]; unfold segO; rw [h24]; rfl))
set_option maxHeartbeats 4000000 in
theorem ringFaultS_fc (r : List Sp) (hl : r.length ≤ 1099511627776) : FC Try.prog 39 [.agg [.isl (r.map Sp.cells)]] (.int .i64 (rgF r : Int)) := by
 refine .b Try.func39 101 (fun nx K hK => ?_) (hi := by simp [idfL, idf, idfLL_iff, Sp.av, Sp.cells, Sg.av, Sg.cells])
 refine .q ?_
 refine .q ?_ (by simp (disch := first|omega|(simp only[ln];omega)) [List.length_map]; rfl)
 refine .sq fun K3 hK3 => ?_
 refine .q ?_
 refine .c (t := decide ((r.length : Int) < 3)) (fun h17 => ?_) (fun h17 => ?_)
 ·try simp only[dc]at h17
  refine .q ?_
  refine .ret ?_
  exact hK _ _ _ _ trivial ((Fin.m).cast (by rw [rgF_few (by omega)]))
 ·try simp only[dc]at h17
  refine .skip ?_
  refine hK3 _ ?_
  refine .sq fun K6 hK6 => ?_
  refine .q ?_
  refine .c (t := decide (12 < (r.length : Int))) (fun h19 => ?_) (fun h19 => ?_)
  ·try simp only[dc]at h19
   refine .q ?_
   refine .ret ?_
   exact hK _ _ _ _ trivial ((Fin.m).cast (by rw [rgF_many (by omega)]))
  ·try simp only[dc]at h19
   have h3 : ¬ r.length < 3 := by omega
   have h12 : ¬ 12 < r.length := by omega
   refine .skip ?_
   refine hK6 _ ?_
   refine .sq fun K9 hK9 => ?_
   refine .q ?_
   refine .block ?_
   
   refine .loop (fun N s => ∃ i : Nat, N = r.length - i ∧ i ≤ r.length ∧ (∀ j, j < i → (gs r j).good = true) ∧ s.env 1 = .ptr nx 0 0 ∧ s.env 3 = .int .i64 (r.length : Int) ∧ s.env 4 = .int .i64 (i : Int) ∧ s.heap nx = some (1, [[.isl (r.map Sp.cells)]]) ∧ nx < s.nx ∧ s.nt = 101) (r.length) (by refine ⟨0, by omega, by omega, fun j h => by omega, ?_, ?_, ?_, ?_, ?_, rfl⟩ <;> first|(simp (disch := omega);done)|omega|(simp;done)|(simp;omega)) ?_
   rintro N ⟨e, H, mm, nt⟩ ⟨i, rfl, hi, hgd, g1, g3, g4, Hr, xr, rfl⟩
   simp only [] at g1 g3 g4 Hr xr
   refine .sq fun K11 hK11 => ?_
   refine .q ?_ (by simp (disch := first|omega|(simp only[ln];omega)) [g3, g4]; rfl)
   refine .c (fun h22 => ?_) (fun h22 => ?_)
   ·try simp only[dc]at h22
    have hi' : i < r.length := by omega
    have hat := rg_at hi'
    refine .skip ?_
    refine hK11 _ ?_
    refine .sq fun K13 hK13 => ?_
    refine .block ?_
    refine .sq fun K14 hK14 => ?_
    refine .region ?_
    refine .kf 5 (spotOkS_fc (gs r i)) hb88 ?_ (by simp (disch := first|omega|(simp only[ln];omega)) [List.take_succ_cons, List.take_zero, if_pos, g1, g4, Hr, hat, List.length_map]; rfl) (ha := by simp (disch := first|omega|(simp only[ln];omega)) [idf_Wd', if_pos, g1, g4, Hr, hat, List.length_map])
    refine .e ?_ (by simp (disch := first|omega|(simp only[ln];omega)) [if_pos, g1, g4, Hr, hat, List.length_map]; rfl)
    refine hK14 _ ?_
    refine .c (t := !(gs r i).good) (fun h31 => ?_) (fun h31 => ?_)
    ·try simp only[dc]at h31
     have hb : ¬ (gs r i).good = true := by simpa using h31
     refine .q ?_
     refine .ret ?_
     exact hK _ _ _ _ trivial ((Fin.m).cast (by rw [rgF_coord h3 h12 (gs_mem hi') hb]))
    ·try simp only[dc]at h31
     have hg1 : (gs r i).good = true := by simpa using h31
     refine .skip ?_
     refine hK13 _ ?_
     refine .r ?_ (by simp (disch := first|omega|(simp only[ln];omega)) [g4]; rfl)
     refine ⟨r.length - (i + 1), by omega, i + 1, rfl, by omega, fun j h => by rcases Nat.lt_succ_iff_lt_or_eq.1 h with h | h; exact hgd j h; rw [h]; exact hg1, ?_, ?_, ?_, ?_, ?_, rfl⟩ <;> first|(simp (disch := omega) [g1, g3, g4, Hr];done)|omega|(simp;done)|(simp;omega)
   ·try simp only[dc]at h22
    have hG : spsGood r := spsGood_of (by omega) hgd
    clear hgd
    refine .exit ?_
    refine hK9 _ ?_
    refine .sq fun K16 hK16 => ?_
    refine .q ?_
    refine .block ?_
    
    refine .loop (fun N s => ∃ i : Nat, N = r.length - i ∧ i ≤ r.length ∧ (∀ j k, k < j → j < i → gs r j ≠ gs r k) ∧ s.env 1 = .ptr nx 0 0 ∧ s.env 3 = .int .i64 (r.length : Int) ∧ s.env 5 = .int .i64 (i : Int) ∧ s.heap nx = some (1, [[.isl (r.map Sp.cells)]]) ∧ nx < s.nx ∧ s.nt = 101) (r.length) (by refine ⟨0, by omega, by omega, fun j k h h' => by omega, ?_, ?_, ?_, ?_, ?_, rfl⟩ <;> first|(simp (disch := omega) [g1, g3, Hr];done)|omega|(simp;done)|(simp;omega)) ?_
    clear g1 g3 g4 Hr
    rintro N ⟨e, H, mm, nt⟩ ⟨i, rfl, hi, hnd, g1, g3, g5, Hr, xr, rfl⟩
    simp only [] at g1 g3 g5 Hr xr
    refine .sq fun K18 hK18 => ?_
    refine .q ?_ (by simp (disch := first|omega|(simp only[ln];omega)) [g3, g5]; rfl)
    refine .c (fun h34 => ?_) (fun h34 => ?_)
    ·try simp only[dc]at h34
     have hi' : i < r.length := by omega
     have hat := rg_at hi'
     refine .skip ?_
     refine hK18 _ ?_
     refine .sq fun K20 hK20 => ?_
     refine .block ?_
     refine .q ?_
     refine .block ?_
     
     refine .loop (fun N s => ∃ k : Nat, N = i - k ∧ k ≤ i ∧ (∀ k', k' < k → gs r i ≠ gs r k') ∧ s.env 1 = .ptr nx 0 0 ∧ s.env 3 = .int .i64 (r.length : Int) ∧ s.env 5 = .int .i64 (i : Int) ∧ s.env 6 = .int .i64 (k : Int) ∧ s.heap nx = some (1, [[.isl (r.map Sp.cells)]]) ∧ nx < s.nx ∧ s.nt = 101) (i) (by refine ⟨0, by omega, by omega, fun j h => by omega, ?_, ?_, ?_, ?_, ?_, ?_, rfl⟩ <;> first|(simp (disch := omega) [g1, g3, g5, Hr];done)|omega|(simp;done)|(simp;omega)) ?_
     clear g1 g3 g5 Hr
     rintro N ⟨e, H, mm, nt⟩ ⟨k, rfl, hk, hk2, g1, g3, g5, g6, Hr, xr, rfl⟩
     simp only [] at g1 g3 g5 g6 Hr xr
     refine .sq fun K22 hK22 => ?_
     refine .q ?_ (by simp (disch := first|omega|(simp only[ln];omega)) [g5, g6]; rfl)
     refine .c (fun h39 => ?_) (fun h39 => ?_)
     ·try simp only[dc]at h39
      have hk' : k < i := by omega
      have hatk := rg_at (show k < r.length by omega)
      refine .skip ?_
      refine hK22 _ ?_
      refine .sq fun K24 hK24 => ?_
      refine .block ?_
      refine .sq fun K25 hK25 => ?_
      refine .df 11 ?_ (by simp (disch := first|omega|(simp only[ln];omega)) [runDf.eq_def, runF1, runF2, stepF.eq_def, updo.eq_def, hupo.eq_def, opSto1.eq_def, if_pos, g1, g5, g6, Hr, hat, hatk, eqW2, List.length_map]; rfl)
      refine hK25 _ ?_
      refine .c (t := decide (gs r i = gs r k)) (fun h52 => ?_) (fun h52 => ?_)
      ·try simp only[dc]at h52
       refine .q ?_
       refine .ret ?_
       exact hK _ _ _ _ trivial ((Fin.m).cast (by rw [rgF_twice h3 h12 hG ⟨i, k, hk', hi', h52⟩]))
      ·try simp only[dc]at h52
       have hne1 := h52
       refine .skip ?_
       refine hK24 _ ?_
       refine .r ?_ (by simp (disch := first|omega|(simp only[ln];omega)) [g6]; rfl)
       refine ⟨i - (k + 1), by omega, k + 1, rfl, by omega, fun j h => by rcases Nat.lt_succ_iff_lt_or_eq.1 h with h | h; exact hk2 j h; rw [h]; exact hne1, ?_, ?_, ?_, ?_, ?_, ?_, rfl⟩ <;> first|(simp (disch := omega) [g1, g3, g5, g6, Hr];done)|omega|(simp;done)|(simp;omega)
     ·try simp only[dc]at h39
      have hn1 : ∀ k', k' < i → gs r i ≠ gs r k' := fun k' h => hk2 k' (by omega)
      refine .exit ?_
      refine hK20 _ ?_
      refine .r ?_ (by simp (disch := first|omega|(simp only[ln];omega)) [g5]; rfl)
      refine ⟨r.length - (i + 1), by omega, i + 1, rfl, by omega, fun j k h h' => by rcases Nat.lt_succ_iff_lt_or_eq.1 h' with h' | h'; exact hnd j k h h'; rw [h']; exact hn1 k (by omega), ?_, ?_, ?_, ?_, ?_, rfl⟩ <;> first|(simp (disch := omega) [g1, g3, g5, Hr];done)|omega|(simp;done)|(simp;omega)
    ·try simp only[dc]at h34
     have hD : ¬ rgDup r := by rintro ⟨j, k, q1, q2, q3⟩; exact hnd j k q1 (by omega) q3
     clear hnd
     refine .exit ?_
     refine hK16 _ ?_
     refine .sq fun K27 hK27 => ?_
     refine .q ?_
     refine .block ?_
     
     refine .loop (fun N s => ∃ i : Nat, N = r.length - i ∧ i ≤ r.length ∧ (∀ j k, k < j → j < i → ¬ badS r j k) ∧ s.env 1 = .ptr nx 0 0 ∧ s.env 3 = .int .i64 (r.length : Int) ∧ s.env 7 = .int .i64 (i : Int) ∧ s.heap nx = some (1, [[.isl (r.map Sp.cells)]]) ∧ nx < s.nx ∧ s.nt = 101) (r.length) (by refine ⟨0, by omega, by omega, fun j k h h' => by omega, ?_, ?_, ?_, ?_, ?_, rfl⟩ <;> first|(simp (disch := omega) [g1, g3, Hr];done)|omega|(simp;done)|(simp;omega)) ?_
     clear g1 g3 g5 Hr
     rintro N ⟨e, H, mm, nt⟩ ⟨i, rfl, hi, hok, g1, g3, g7, Hr, xr, rfl⟩
     simp only [] at g1 g3 g7 Hr xr
     refine .sq fun K29 hK29 => ?_
     refine .q ?_ (by simp (disch := first|omega|(simp only[ln];omega)) [g3, g7]; rfl)
     refine .c (fun h55 => ?_) (fun h55 => ?_)
     ·try simp only[dc]at h55
      have hi' : i < r.length := by omega
      have gi := sd_good (by omega) hG hD hi'
      refine .skip ?_
      refine hK29 _ ?_
      refine .sq fun K31 hK31 => ?_
      refine .block ?_
      refine .q ?_
      refine .block ?_
      
      refine .loop (fun N s => ∃ k : Nat, N = i - k ∧ k ≤ i ∧ (∀ k', k' < k → ¬ badS r i k') ∧ s.env 1 = .ptr nx 0 0 ∧ s.env 3 = .int .i64 (r.length : Int) ∧ s.env 7 = .int .i64 (i : Int) ∧ s.env 8 = .int .i64 (k : Int) ∧ s.heap nx = some (1, [[.isl (r.map Sp.cells)]]) ∧ nx < s.nx ∧ s.nt = 101) (i) (by refine ⟨0, by omega, by omega, fun j h => by omega, ?_, ?_, ?_, ?_, ?_, ?_, rfl⟩ <;> first|(simp (disch := omega) [g1, g3, g7, Hr];done)|omega|(simp;done)|(simp;omega)) ?_
      clear g1 g3 g7 Hr
      rintro N ⟨e, H, mm, nt⟩ ⟨k, rfl, hk, hk2, g1, g3, g7, g8, Hr, xr, rfl⟩
      simp only [] at g1 g3 g7 g8 Hr xr
      refine .sq fun K33 hK33 => ?_
      refine .q ?_ (by simp (disch := first|omega|(simp only[ln];omega)) [g7, g8]; rfl)
      refine .c (fun h60 => ?_) (fun h60 => ?_)
      ·try simp only[dc]at h60
       have hk' : k < i := by omega
       have hki : k < r.length := by omega
       have gk := sd_good (by omega) hG hD hki
       have hmt := l4Meet_fc (sd r i) (sd r k) gi gk
       obtain ⟨b1, b2, b3, c1, c2, c3, s1, s2, s3, t1, t2, t3, h4V, ones⟩ := l4V_k gi gk
       obtain ⟨o1, o2, o3, o4, o5, o6⟩ := ones
       rw [h4V] at hmt
       obtain ⟨M, hM⟩ : ∃ M, meetI (sd r i) (sd r k) = M := ⟨_, rfl⟩
       rw [hM] at hmt
       have hbd : badS r i k ↔ ((nxt r.length i k ∧ M.1 ≠ 1) ∨ (¬ nxt r.length i k ∧ M.1 ≠ 0)) := by have := bad_iff (by omega) hG hD hk' hi'; unfold badS; rw [this]; unfold mkd; rw [hM]
       refine .skip ?_
       refine hK33 _ ?_
       refine .sq fun K35 hK35 => ?_
       refine .block ?_
       refine .sq fun K36 hK36 => ?_
       refine .old fun hold => ?_
       refine .d 13 ?_
       refine .k 2 (fun fs37 hfs37 => ?_) (by simp (disch := first|omega|(simp only[ln];omega)) [runDf.eq_def, runF1, runF2, stepF.eq_def, updo.eq_def, hupo.eq_def, opSto1.eq_def, List.take_succ_cons, List.take_zero, g1, g7, g8, Hr, o1, o2, o3, o4, o5, o6]; rfl)
       refine .f (l5Side_fc r i hi' hl) hb66 ?_ (ha := by simp (disch := first|omega|(simp only[ln];omega)) [idf_Wd', g1, g7, g8, Hr, o1, o2, o3, o4, o5, o6])
       refine .k 2 (fun fs38 hfs38 => ?_) (by simp (disch := first|omega|(simp only[ln];omega)) [runDf.eq_def, runF1, runF2, stepF.eq_def, updo.eq_def, hupo.eq_def, opSto1.eq_def, List.take_succ_cons, List.take_zero, g1, g7, g8, Hr, o1, o2, o3, o4, o5, o6]; rfl)
       refine .f (l5Side_fc r k hki hl) hb66 ?_ (ha := by simp (disch := first|omega|(simp only[ln];omega)) [idf_Wd', g1, g7, g8, Hr, o1, o2, o3, o4, o5, o6])
       refine .f hmt hb89 ?_ (ha := by simp (disch := first|omega|(simp only[ln];omega)) [idf_Wd', g1, g7, g8, Hr, o1, o2, o3, o4, o5, o6])
       refine .k 3 (fun fs39 hfs39 => ?_) (by simp (disch := first|omega|(simp only[ln];omega)) [runDf.eq_def, runF1, runF2, stepF.eq_def, updo.eq_def, hupo.eq_def, opSto1.eq_def, List.take_succ_cons, List.take_zero, g1, g7, g8, Hr, o1, o2, o3, o4, o5, o6]; rfl)
       refine DP.runF1q (by simp (disch := first|omega|(simp only[ln];omega)) [runDf.eq_def, runF1, runF2, stepF.eq_def, updo.eq_def, hupo.eq_def, opSto1.eq_def, g1, g7, g8, Hr, o1, o2, o3, o4, o5, o6]; rfl) fun fq40 hfq40 => ?_
       simp [qids, asksB, Op.operands, topId] at hfq40
       simp only [updo]
       refine .k 2 (fun fs41 hfs41 => ?_) (by simp (disch := first|omega|(simp only[ln];omega)) [runDf.eq_def, runF1, runF2, stepF.eq_def, updo.eq_def, hupo.eq_def, opSto1.eq_def, List.take_succ_cons, List.take_zero, g1, g7, g8, Hr, o1, o2, o3, o4, o5, o6]; rfl)
       refine DQ.asg1 _ rfl rfl ?_
       simp only [updo]
       refine DQ.sto1 (m := 13) [10] _ (by simp (disch := first|omega|(simp only[ln];omega)) [runDf.eq_def, runF1, runF2, stepF.eq_def, updo.eq_def, hupo.eq_def, opSto1.eq_def, g1, g7, g8, Hr, o1, o2, o3, o4, o5, o6]; rfl) rfl (by simp only[ln, hfs37, hfs38, hfs39, hfs41];omega) (by kernel_rfl) (by intro k f hk hex; simp only [List.mem_cons, List.not_mem_nil, or_false] at hex; rcases hex with rfl <;> (simp [List.getElem?_append, hfs37, hfs38, hfs39, hfs41] at hk; subst hk; refine ⟨?_, by first | omega | (simp; done) | (simp; omega)⟩; simp [qids, asksB, Op.operands, Call.operands, topId, numS, numI, Wd, hfq40, g1, g7, g8]; try omega)) ?_
       try simp only []
       refine DQ.sto1 (m := 13) [] _ (by simp (disch := first|omega|(simp only[ln];omega)) [runDf.eq_def, runF1, runF2, stepF.eq_def, updo.eq_def, hupo.eq_def, opSto1.eq_def, g1, g7, g8, Hr, o1, o2, o3, o4, o5, o6]; rfl) rfl (by simp only[ln, hfs37, hfs38, hfs39, hfs41];omega) (by kernel_rfl) (by intro k f hk hex; simp only [List.not_mem_nil] at hex) ?_
       try simp only []
       refine hK36 _ ?_
       refine .sq fun K42 hK42 => ?_
       have J42 : ∀ s : St, (∃ nb : Bool, (nb = true ↔ nxt r.length i k) ∧ s.env 1 = .ptr nx 0 0 ∧ s.env 3 = .int .i64 (r.length : Int) ∧ s.env 7 = .int .i64 (i : Int) ∧ s.env 8 = .int .i64 (k : Int) ∧ s.env 9 = .int .i64 (M.1 : Int) ∧ s.env 12 = .bool nb ∧ s.heap nx = some (1, [[.isl (r.map Sp.cells)]]) ∧ nx < s.nx ∧ s.nt = 101) → K42 s := by
        clear g1 g3 g7 g8 Hr xr
        rintro ⟨e, H, mm, nt⟩ ⟨nb, hnb, g1, g3, g7, g8, g9, g12, Hr, xr, rfl⟩
        simp only [] at g1 g3 g7 g8 g9 g12 Hr xr
        refine hK42 _ ?_
        refine .sq fun K43 hK43 => ?_
        cases hnbv : nb
        ·have hnn : ¬ nxt r.length i k := fun h => by have := hnb.2 h; rw [hnbv] at this; simp at this
         refine .r ?_ (by simp (disch := first|omega|(simp only[ln];omega)) [g9, g12, hnbv]; rfl)
         refine hK43 _ ?_
         refine .c (t := M.1 != 0) (fun h100 => ?_) (fun h100 => ?_) (by simp (disch := first|omega|(simp only[ln];omega)) [bne])
         ·try simp only[dc]at h100
          have m0 : M.1 ≠ 0 := by simpa using h100
          have hbad : badS r i k := hbd.2 (.inr ⟨hnn, m0⟩)
          refine .q ?_
          refine .ret ?_
          exact hK _ _ _ _ trivial ((Fin.m).cast (by rw [rgF_cross h3 h12 hG hD ⟨i, k, hk', hi', hbad⟩]))
         ·try simp only[dc]at h100
          have m0 : M.1 = 0 := by simpa using h100
          have hnbad : ¬ badS r i k := fun h => by rcases hbd.1 h with h | h; exact hnn h.1; exact h.2 m0
          refine .skip ?_
          refine hK35 _ ?_
          refine .r ?_ (by simp (disch := first|omega|(simp only[ln];omega)) [g8]; rfl)
          refine ⟨i - (k + 1), by omega, k + 1, rfl, by omega, fun j h => by rcases Nat.lt_succ_iff_lt_or_eq.1 h with h | h; exact hk2 j h; rw [h]; exact hnbad, ?_, ?_, ?_, ?_, ?_, ?_, rfl⟩ <;> first|(simp (disch := omega) [g1, g3, g7, g8, Hr];done)|omega|(simp;done)|(simp;omega)
        ·have hnn := hnb.1 hnbv
         by_cases m1 : M.1 = 1
         ·have d1 : (M.1 != 1) = false := by simp [m1]
          refine .r ?_ (by simp (disch := first|omega|(simp only[ln];omega)) [g9, g12, hnbv, d1]; rfl)
          refine hK43 _ ?_
          refine .c (fun h100 => ?_) (fun h100 => ?_)
          ·simp at h100
          ·try simp only[dc]at h100
           have hnbad : ¬ badS r i k := fun h => by rcases hbd.1 h with h | h; exact h.2 m1; exact h.1 hnn
           refine .skip ?_
           refine hK35 _ ?_
           refine .r ?_ (by simp (disch := first|omega|(simp only[ln];omega)) [g8]; rfl)
           refine ⟨i - (k + 1), by omega, k + 1, rfl, by omega, fun j h => by rcases Nat.lt_succ_iff_lt_or_eq.1 h with h | h; exact hk2 j h; rw [h]; exact hnbad, ?_, ?_, ?_, ?_, ?_, ?_, rfl⟩ <;> first|(simp (disch := omega) [g1, g3, g7, g8, Hr];done)|omega|(simp;done)|(simp;omega)
         ·have d1 : (M.1 != 1) = true := by simp [m1]
          refine .r ?_ (by simp (disch := first|omega|(simp only[ln];omega)) [g9, g12, hnbv, d1]; rfl)
          refine hK43 _ ?_
          refine .c (fun h100 => ?_) (fun h100 => ?_)
          ·try simp only[dc]at h100
           have hbad : badS r i k := hbd.2 (.inl ⟨hnn, m1⟩)
           refine .q ?_
           refine .ret ?_
           exact hK _ _ _ _ trivial ((Fin.m).cast (by rw [rgF_cross h3 h12 hG hD ⟨i, k, hk', hi', hbad⟩]))
          ·simp at h100
       by_cases q1 : (k : Int) = (i : Int) - 1
       ·have c1 : ((k : Int) == (i : Int) - 1) = true := by simp [q1]
        refine .r ?_ (by simp (disch := first|omega|(simp only[ln];omega)) [g1, g3, g7, g8, Hr, c1]; rfl)
        refine J42 _ ?_
        refine ⟨true, ⟨fun _ => .inl (by omega), fun _ => rfl⟩, ?_, ?_, ?_, ?_, ?_, ?_, ?_, ?_, rfl⟩ <;> first|(simp (disch := omega) [g1, g3, g7, g8, Hr];done)|omega|(simp;done)|(simp;omega)
       ·have c1 : ((k : Int) == (i : Int) - 1) = false := by simp [q1]
        by_cases q2 : k = 0
        ·have c2 : ((k : Int) == 0) = true := by simp [q2]
         have c2' : (k == 0) = true := by simp [q2]
         by_cases q3 : (i : Int) = (r.length : Int) - 1
         ·have c3 : ((i : Int) == (r.length : Int) - 1) = true := by simp [q3]
          refine .r ?_ (by simp (disch := first|omega|(simp only[ln];omega)) [g1, g3, g7, g8, Hr, c1, c2, c2', c3]; rfl)
          refine J42 _ ?_
          refine ⟨true, ⟨fun _ => .inr ⟨by omega, by omega⟩, fun _ => rfl⟩, ?_, ?_, ?_, ?_, ?_, ?_, ?_, ?_, rfl⟩ <;> first|(simp (disch := omega) [g1, g3, g7, g8, Hr];done)|omega|(simp;done)|(simp;omega)
         ·have c3 : ((i : Int) == (r.length : Int) - 1) = false := by simp [q3]
          refine .r ?_ (by simp (disch := first|omega|(simp only[ln];omega)) [g1, g3, g7, g8, Hr, c1, c2, c2', c3]; rfl)
          refine J42 _ ?_
          refine ⟨false, ⟨fun h => by simp at h, fun h => by rcases h with h | ⟨h, h'⟩ <;> omega⟩, ?_, ?_, ?_, ?_, ?_, ?_, ?_, ?_, rfl⟩ <;> first|(simp (disch := omega) [g1, g3, g7, g8, Hr];done)|omega|(simp;done)|(simp;omega)
        ·have c2 : ((k : Int) == 0) = false := by simp; omega
         have c2' : (k == 0) = false := by simp; omega
         refine .r ?_ (by simp (disch := first|omega|(simp only[ln];omega)) [g1, g3, g7, g8, Hr, c1, c2, c2']; rfl)
         refine J42 _ ?_
         refine ⟨false, ⟨fun h => by simp at h, fun h => by rcases h with h | ⟨h, h'⟩ <;> omega⟩, ?_, ?_, ?_, ?_, ?_, ?_, ?_, ?_, rfl⟩ <;> first|(simp (disch := omega) [g1, g3, g7, g8, Hr];done)|omega|(simp;done)|(simp;omega)
      ·try simp only[dc]at h60
       have hn1 : ∀ k', k' < i → ¬ badS r i k' := fun k' h => hk2 k' (by omega)
       refine .exit ?_
       refine hK31 _ ?_
       refine .r ?_ (by simp (disch := first|omega|(simp only[ln];omega)) [g7]; rfl)
       refine ⟨r.length - (i + 1), by omega, i + 1, rfl, by omega, fun j k h h' => by rcases Nat.lt_succ_iff_lt_or_eq.1 h' with h' | h'; exact hok j k h h'; rw [h']; exact hn1 k (by omega), ?_, ?_, ?_, ?_, ?_, rfl⟩ <;> first|(simp (disch := omega) [g1, g3, g7, Hr];done)|omega|(simp;done)|(simp;omega)
     ·try simp only[dc]at h55
      have hX : ¬ rgX r := by rintro ⟨j, k, q1, q2, q3⟩; exact hok j k q1 (by omega) q3
      refine .exit ?_
      refine hK27 _ ?_
      refine .q ?_
      refine .ret ?_
      exact hK _ _ _ _ trivial ((Fin.m).cast (by rw [rgF_ok h3 h12 hG hD hX]))
end

end Go.Proofs.Ytdcajfgeleopiaa

/- Walks: rings turned; rows of spots that are marked. -/
namespace Go.Proofs.Ytdcajfgeleopiaa
open Go Go.RowKit
set_option linter.unusedSimpArgs false
set_option linter.unusedVariables false
set_option maxRecDepth 100000
attribute [local simp] szT2 byT2 agT2 unT2 zoT2 szT3 byT3 agT3 unT3 zoT3 szT35 byT35 agT35 elT35 unT35 zoT35 szT37 byT37 agT37 flT37 fdT37_0 zoT37 szT41 byT41 agT41 elT41 unT41 zoT41 szT43 byT43 agT43 flT43 fdT43_0 zoT43 szT102 byT102 agT102 flT102 fdT102_0 fdT102_1 zoT102 szT158 byT158 agT158 flT158 fdT158_0 fdT158_1 zoT158

section
attribute [local simp] Sp.av Sp.cells Sg.av Sg.cells
theorem cloneSp_own (p : Sp) (l : List Sp) (hl : l.length ≤ 1099511627776) (nx : Nat) : ACall Try.prog 146 [.isl ((p :: l).map Sp.cells)] (fun _ => none) nx (own1 nx 2 ((p :: l).map Sp.cells) (fun id => .osl id 0 (p :: l).length)) := by
 have hc1 : (l.length + 1) * 16 ≤ 140737488355328 := by omega
 have hc2 : l.length ≤ 9223372036854775806 := by omega
 refine .b Try.func146 8 fun K hK => ?_
 refine .q ?_
 refine .sq fun K2 hK2 => ?_
 refine .sq fun K3 hK3 => ?_
 refine AWP.region ?_
 refine AOPS.runk 1 (by simp (disch := first|omega|(simp only[ln];omega)) [List.take_succ_cons, List.take_zero]; rfl) ?_
 simp only [List.drop_succ_cons, List.drop_zero]
 refine AOPS.isnilG (c0 := .int .i64 p.x) (cs := [.int .i64 p.y]) (r := l.map Sp.cells) rfl unT41 (by simp) (by simp) (by simp) ?_
 simp only [puts_some]
 refine AOPS.nil ?_
 refine hK3 _ ?_
 refine .c (fun h4 => ?_) (fun h4 => ?_)
 ·simp at h4
 ·try simp only[dc]at h4
  refine .skip ?_
  refine hK2 _ ?_
  refine .sq fun K4 hK4 => ?_
  refine .region ?_
  refine .k 2 ?_
  refine AOPS.opapp (by simp (disch := first|omega|(simp only[ln];omega)) [opApp.eq_def, aSrc_isl, aSrc_osl, aSrc_nsl, aSrc_int, wd_app, wd_app2, if_pos, wd_append, wd_take, wd_drop, List.nil_append, hc1, hc2, src_Wd' (P := Try.prog) elT41]; first | rfl | exact ⟨rfl, rfl⟩ | exact ⟨rfl, rfl, rfl⟩) (by simp) (by simp) ?_
  simp only [puts_some, hdrop]
  refine .e ?_
  refine hK4 _ ?_
  refine .ret ?_
  exact hK _ _ _ _ _ trivial (Fin.own1 (Fin.mk (by simp (disch := omega) [aRes, aResL, aRes1]; try rfl)) (id := (nx + 1)) (by simp (disch := omega) [Sp.cells])) (⟨(nx + 1), by first | omega | (simp; done) | (simp; omega), by first | omega | (simp; done) | (simp; omega), rfl, rfl⟩)
set_option maxHeartbeats 2000000 in
theorem reverseSp_ac (l : List Sp) (s m id : Nat) (HP : Heap) (nx : Nat) (hH : HP id = some (2, l.map Sp.cells)) (hid : id < nx) (hs : s + m ≤ l.length) (hl : l.length ≤ 1099511627776) : ACall Try.prog 147 [.osl id s m] HP nx (fun r H' nx' => r = .tup [] ∧ (∃ i, m ≤ 2 * i + 1 ∧ H' = hupd HP id (some (2, (revI l s m i).map Sp.cells))) ∧ nx ≤ nx') := by
 refine .b Try.func147 28 fun K hK => ?_
 refine .q ?_ (by simp (disch := first|omega|(simp only[ln];omega)) [hH]; rfl)
 refine .block ?_
 
 refine .loop (fun N st => ∃ i : Nat, N = m - i ∧ i ≤ m ∧ (st.heap = hupd HP id (some (2, (revI l s m i).map Sp.cells))) ∧ (nx ≤ st.nx) ∧ st.env 0 = .osl id s m ∧ st.env 2 = .int .i64 (i : Int) ∧ st.env 3 = .int .i64 ((m : Int) - 1 - (i : Int)) ∧ st.nt = 28) (m) (by refine ⟨0, by omega, by omega, by rw [revI_zero]; exact (hupd_id hH).symm, Nat.le_refl _, ?_, ?_, ?_, rfl⟩ <;> first|(simp (disch := omega);done)|omega|(simp;done)|(simp;omega)|(simp (disch := omega) <;> omega)) ?_
 rintro N ⟨e, H, mm, nt⟩ ⟨i, rfl, hi, rfl, hnx, g0, g2, g3, rfl⟩
 simp only [] at g0 g2 g3
 refine .sq fun K2 hK2 => ?_
 refine .q ?_ (by simp (disch := first|omega|(simp only[ln];omega)) [g2, g3]; rfl)
 refine .c (fun h9 => ?_) (fun h9 => ?_)
 ·try simp only[dc]at h9
  simp only [] at hnx
  have hi' : 2 * i + 1 < m := by omega
  obtain ⟨j, hj⟩ : ∃ j : Nat, j = m - 1 - i := ⟨_, rfl⟩
  have hji : (m : Int) - 1 - i = j := by omega
  have hlo : ((revI l s m i).map Sp.cells)[s + i]? = some [.int .i64 (gs l (s + i)).x, .int .i64 (gs l (s + i)).y] := by rw [List.getElem?_map, revI_lo hs hi']; rfl
  have hhi : ((revI l s m i).map Sp.cells)[s + j]? = some [.int .i64 (gs l (s + j)).x, .int .i64 (gs l (s + j)).y] := by rw [hj, List.getElem?_map, revI_hi hs hi']; rfl
  have hset : (((revI l s m i).map Sp.cells).set (s + i) [.int .i64 (gs l (s + j)).x, .int .i64 (gs l (s + j)).y]).set (s + j) [.int .i64 (gs l (s + i)).x, .int .i64 (gs l (s + i)).y] = (revI l s m (i + 1)).map Sp.cells := by
    rw [← revI_step hs hi', ← hj, List.map_set, List.map_set]; rfl
  have hcl : ((revI l s m i).map Sp.cells).length = l.length := by rw [List.length_map, revI_len]
  generalize (revI l s m i).map Sp.cells = C at *
  have hh2 : ∀ x, (C.set (s + i) x)[s + j]? = some [.int .i64 (gs l (s + j)).x, .int .i64 (gs l (s + j)).y] := fun x => by rw [List.getElem?_set_ne (by omega)]; exact hhi
  have hgI : ∀ h : s + i < C.length, C[s + i] = [.int .i64 (gs l (s + i)).x, .int .i64 (gs l (s + i)).y] := fun h => by rw [List.getElem?_eq_getElem h] at hlo; simpa using hlo
  have hgJ : ∀ h : s + j < C.length, C[s + j] = [.int .i64 (gs l (s + j)).x, .int .i64 (gs l (s + j)).y] := fun h => by rw [List.getElem?_eq_getElem h] at hhi; simpa using hhi
  have hgK : ∀ (x : List AV) (h : s + j < (C.set (s + i) x).length), (C.set (s + i) x)[s + j] = [.int .i64 (gs l (s + j)).x, .int .i64 (gs l (s + j)).y] := fun x h => by have := hh2 x; rw [List.getElem?_eq_getElem h] at this; simpa using this
  have hil : s + i < l.length := by omega
  have hjl : s + j < l.length := by omega
  refine .skip ?_
  refine hK2 _ ?_
  refine .sq fun K4 hK4 => ?_
  refine .block ?_
  refine .old fun hold => ?_
  refine .d 13 ?_
  refine .k 2 (fun fs5 hfs5 => ?_) (by simp (disch := first|omega|(simp only[ln];omega)) [runDf.eq_def, runF1, runF2, stepF.eq_def, updo.eq_def, hupo.eq_def, opSto1.eq_def, List.take_succ_cons, List.take_zero, if_pos, g0, g2, g3, hji, hlo, hhi, hh2, hcl, hgI, hgJ, hgK, hil, hjl, List.length_set]; rfl)
  refine DP.runF1q (by simp (disch := first|omega|(simp only[ln];omega)) [runDf.eq_def, runF1, runF2, stepF.eq_def, updo.eq_def, hupo.eq_def, opSto1.eq_def, if_pos, g0, g2, g3, hji, hlo, hhi, hh2, hcl, hgI, hgJ, hgK, hil, hjl, List.length_set]; rfl) fun fq6 hfq6 => ?_
  simp [qids, asksB, Op.operands, topId] at hfq6
  simp only [updo]
  refine DP.runF1q (by simp (disch := first|omega|(simp only[ln];omega)) [runDf.eq_def, runF1, runF2, stepF.eq_def, updo.eq_def, hupo.eq_def, opSto1.eq_def, if_pos, g0, g2, g3, hji, hlo, hhi, hh2, hcl, hgI, hgJ, hgK, hil, hjl, List.length_set]; rfl) fun fq7 hfq7 => ?_
  simp [qids, asksB, Op.operands, topId] at hfq7
  simp only [updo]
  refine .k 9 (fun fs8 hfs8 => ?_) (by simp (disch := first|omega|(simp only[ln];omega)) [runDf.eq_def, runF1, runF2, stepF.eq_def, updo.eq_def, hupo.eq_def, opSto1.eq_def, List.take_succ_cons, List.take_zero, if_pos, g0, g2, g3, hji, hlo, hhi, hh2, hcl, hgI, hgJ, hgK, hil, hjl, List.length_set]; rfl)
  refine DQ.stoT (m := 13) [2, 3] _ (by simp (disch := first|omega|(simp only[ln];omega)) [runDf.eq_def, runF1, runF2, stepF.eq_def, updo.eq_def, hupo.eq_def, opSto1.eq_def, if_pos, g0, g2, g3, hji, hlo, hhi, hh2, hcl, hgI, hgJ, hgK, hil, hjl, List.length_set]; rfl) rfl (by simp only[ln, hfs5, hfs8];omega) (by kernel_rfl) (by intro k f hk hex; simp only [List.mem_cons, List.not_mem_nil, or_false] at hex; rcases hex with rfl | rfl <;> (simp [List.getElem?_append, hfs5, hfs8] at hk; subst hk; refine ⟨?_, by first | omega | (simp; done) | (simp; omega)⟩; simp [qids, asksB, Op.operands, Call.operands, topId, numS, numI, Wd, hfq6, hfq7, g0, g2, g3]; try omega)) ?_
  try simp only []
  refine DQ.val1 _ (by simp (disch := first|omega|(simp only[ln];omega)) [runDf.eq_def, runF1, runF2, stepF.eq_def, updo.eq_def, hupo.eq_def, opSto1.eq_def, if_pos, g0, g2, g3, hji, hlo, hhi, hh2, hcl, hgI, hgJ, hgK, hil, hjl, List.length_set]; rfl) rfl ?_
  simp only [updo]
  refine DQ.stoT (m := 13) [] _ (by simp (disch := first|omega|(simp only[ln];omega)) [runDf.eq_def, runF1, runF2, stepF.eq_def, updo.eq_def, hupo.eq_def, opSto1.eq_def, if_pos, g0, g2, g3, hji, hlo, hhi, hh2, hcl, hgI, hgJ, hgK, hil, hjl, List.length_set]; rfl) rfl (by simp only[ln, hfs5, hfs8];omega) (by kernel_rfl) (by intro k f hk hex; simp only [List.not_mem_nil] at hex) ?_
  try simp only []
  refine hK4 _ ?_
  refine .r ?_ (by simp (disch := first|omega|(simp only[ln];omega)) [g2, g3]; rfl)
  refine ⟨m - (i + 1), by omega, i + 1, rfl, by omega, by simp [hupd_same, hset], by simp; omega, ?_, ?_, ?_, rfl⟩ <;> first|(simp (disch := omega) [g0, g2, g3];done)|omega|(simp;done)|(simp;omega)|(simp (disch := omega) [g0, g2, g3] <;> omega)
 ·try simp only[dc]at h9
  refine .exit ?_
  exact hK _ _ _ _ _ trivial ((Fin.m)) (⟨rfl, ⟨i, by omega, rfl⟩, hnx⟩)
set_option maxHeartbeats 1000000 in
theorem turned_own (r : List Sp) (hl0 : 1 ≤ r.length) (hl : r.length ≤ 1099511627776) (nx : Nat) : ACall Try.prog 91 [.agg [.isl (r.map Sp.cells)]] (fun _ => none) nx (own1 nx 2 ((turnR r).map Sp.cells) (fun id => .agg [.osl id 0 r.length])) := by
 obtain ⟨p, l, rfl⟩ : ∃ p l, r = p :: l := by
   cases r with
   | nil => simp at hl0
   | cons p l => exact ⟨p, l, rfl⟩
 have hl' : l.length ≤ 1099511627776 := by simp at hl; omega
 obtain ⟨n, hn⟩ : ∃ n, (p :: l).length = n := ⟨_, rfl⟩
 obtain ⟨R0, hR0⟩ : ∃ R0, p :: l = R0 := ⟨_, rfl⟩
 have hcl := fun nx => cloneSp_own p l hl' nx
 rw [hR0] at hcl hn ⊢
 rw [hn] at hcl ⊢
 have hn1 : 1 ≤ n := by rw [← hn, ← hR0]; simp
 have hn2 : n ≤ 1099511627776 := by rw [← hn, ← hR0]; exact hl
 have hml : (List.map Sp.cells R0).length = n := by rw [List.length_map]; exact hn
 refine .b Try.func91 12 fun K hK => ?_
 refine .q ?_
 refine .sq fun K2 hK2 => ?_
 refine .region ?_
 refine .k 2 ?_
 refine AOPS.ocallL 4 (hcl _) rfl rfl rfl hb146 (by simp (disch := first|omega|(simp only[ln];omega)) [lv, idf_Wd', lv_sp, lv_sg, lv_m2, lv_int, lv_bool, lv_nsl, List.map_map]) (⟨fun _ h => by simp [nwr, nwrL]; try exact h, by simp [nwr, nwrL, Sp.cells, Sg.cells]⟩) (by simp (disch := first|omega|(simp only[ln];omega))) (by simp) ?_
 intro id nx2 hi1 hi2
 simp only [] at hi1 hi2
 simp only [puts_some, updo]
 refine .e ?_
 refine hK2 _ ?_
 refine .sq fun K3 hK3 => ?_
 refine .region ?_
 refine .k 2 ?_ (by simp (disch := first|omega|(simp only[ln];omega)) [List.take_succ_cons, List.take_zero, if_pos, hn, hn1, hml]; rfl)
 refine .a (reverseSp_ac R0 1 (n - 1) id _ _ (by simp (disch := omega)) (by first | omega | (simp; omega)) (by omega) (by omega)) hb147 ?_ (ha := by simp (disch := first|omega|(simp only[ln];omega)) [idf_Wd', if_pos, hn, hn1, hml])
 rintro _ _ nx3 ⟨rfl, ⟨i, hi, rfl⟩, hnx3⟩
 simp only [] at hnx3
 have hre := revI_end (l := R0) (i := i) (by omega) (by omega)
 rw [hn] at hre
 rw [hre]
 refine .nil ?_
 refine hK3 _ ?_
 refine .q ?_
 refine .ret ?_
 exact hK _ _ _ _ _ trivial (Fin.own1 (Fin.mk (by simp (disch := omega) [aRes, aResL, aRes1]; try rfl)) (id := id) (by simp (disch := omega))) (⟨id, by first | omega | (simp; done) | (simp; omega), by first | omega | (simp; done) | (simp; omega), rfl, rfl⟩)
end

end Go.Proofs.Ytdcajfgeleopiaa

/- Walks: drawn segments. -/
namespace Go.Proofs.Ytdcajfgeleopiaa
open Go Go.RowKit
set_option linter.unusedSimpArgs false
set_option linter.unusedVariables false
set_option maxRecDepth 100000
attribute [local simp] szT2 byT2 agT2 unT2 zoT2 szT179 byT179 agT179 elT179 unT179 zoT179

def tabO : List Int := [-1000001, 1000001, -9223372036854775808, 9223372036854775807]
theorem tabO_b (k : Nat) : I64 (gt tabO k) := by
  have h : ∀ x ∈ tabO, -9223372036854775808 ≤ x ∧ x ≤ 9223372036854775807 := by decide
  unfold gt I64
  cases hk : tabO[k]? with
  | none => simp
  | some x => simpa using h x (List.mem_of_getElem? hk)
set_option maxHeartbeats 2000000 in
theorem off_ac (l : List Int) (p id : Nat) (H : Heap) (nx : Nat) (dl : Dig 256 l) (hl : l.length ≤ 1048576) (hp : p ≤ l.length) (hH : H id = some (2, [[Wd .u8 l, .int .i64 (p : Int)]])) (hd : ∀ i q, H i = some q → i < nx) : ACall Try.prog 131 [.ptr id 0 0, .int .i64 (-1000000), .int .i64 1000000] H nx (fun r H' nx' => (∃ k : Int, r = .int .i64 k ∧ I64 k) ∧ (∃ p' : Nat, p' ≤ l.length ∧ H' = hupd H id (some (2, [[Wd .u8 l, .int .i64 (p' : Int)]]))) ∧ nx ≤ nx') := by
 have hid := hd id _ hH
 have tOl : tabO.length = 4 := rfl
 refine .b Try.func131 22 fun K hK => ?_
 refine .q ?_
 refine .sq fun K2 hK2 => ?_
 refine .sq fun K3 hK3 => ?_
 refine .region ?_
 refine .k 1 ?_ (by simp (disch := first|omega|(simp only[ln];omega)) [List.take_succ_cons, List.take_zero, hH]; rfl)
 refine AOPS.old fun hold1 => ?_
 refine .a (once_ac 24 (by omega) (by omega) l p id _ _ dl hl hp (by simp (disch := omega) [hH]) hold1) hb102 ?_ (ha := by simp (disch := first|omega|(simp only[ln];omega)) [idf_Wd', hH])
 rintro _ _ nx2 ⟨⟨b, rfl⟩, ⟨p2, hp2, rfl⟩, hnx2⟩
 try simp only [] at hnx2
 clear hold1
 refine .nil ?_
 refine hK3 _ ?_
 refine .c (t := b) (fun h8 => ?_) (fun h8 => ?_)
 ·try simp only[dc]at h8
  refine .sq fun K4 hK4 => ?_
  refine .region ?_
  refine .k 6 ?_ (by simp (disch := first|omega|(simp only[ln];omega)) [List.take_succ_cons, List.take_zero, idx_WdD (P := Try.prog) elT179 szT2, if_pos, tOl]; rfl)
  refine AOPS.frz1 13 nx2 1 (wd .i64 tabO) (Wd .i64 tabO) (by simp; rfl) (by simp; first | exact fz_wd rfl | exact isl_take_wd (by decide)) ?_
  refine AOPS.old fun hold6 => ?_
  refine .a (below_ac 4 (by omega) (by omega) l p2 id _ _ dl hl hp2 (by simp (disch := omega) [hH]) hold6) hb63 ?_ (ha := by simp (disch := first|omega|(simp only[ln];omega)) [idf_Wd', idx_WdD (P := Try.prog) elT179 szT2, if_pos, tOl])
  rintro _ _ nx3 ⟨⟨k, rfl, k0, k1⟩, ⟨p3, hp3, rfl⟩, hnx3⟩
  try simp only [] at hnx3
  clear hold6
  have hk : k.toNat < 4 := by omega
  refine .e ?_ (by simp (disch := first|omega|(simp only[ln];omega)) [idx_WdD (P := Try.prog) elT179 szT2, if_pos, tOl]; rfl)
  refine hK4 _ ?_
  refine .ret ?_
  exact hK _ _ _ _ _ trivial ((Fin.mk (r := .int .i64 (gt tabO k.toNat)) (by simp (disch := omega) [aRes, aResL, aRes1])).restr (fun i => decide (i < nx))) (⟨⟨gt tabO k.toNat, rfl, tabO_b _⟩, ⟨p3, hp3, by simp (disch := first | omega | (simp; done) | (simp; omega)) [hrestr_in, hrestr_out, hrestr_all hd, hupd_same]⟩, by first | omega | (simp at *; omega)⟩)
 ·try simp only[dc]at h8
  refine .skip ?_
  refine hK2 _ ?_
  refine .sq fun K5 hK5 => ?_
  refine .region ?_
  refine .k 3 ?_
  refine AOPS.old fun hold3 => ?_
  refine .a (near_ac (-1000000) (1000000) (by omega) (by omega) (by omega) l p2 id _ _ dl hl hp2 (by simp (disch := omega) [hH]) hold3) hb106 ?_
  rintro _ _ nx3 ⟨⟨k, rfl, k0, k1⟩, ⟨p3, hp3, rfl⟩, hnx3⟩
  try simp only [] at hnx3
  clear hold3
  refine .e ?_
  refine hK5 _ ?_
  refine .ret ?_
  exact hK _ _ _ _ _ trivial ((Fin.mk (r := .int .i64 k) (by simp (disch := omega) [aRes, aResL, aRes1])).restr (fun i => decide (i < nx))) (⟨⟨k, rfl, by unfold I64; omega⟩, ⟨p3, hp3, by simp (disch := first | omega | (simp; done) | (simp; omega)) [hrestr_in, hrestr_out, hrestr_all hd, hupd_same]⟩, by first | omega | (simp at *; omega)⟩)

end Go.Proofs.Ytdcajfgeleopiaa

/- Walks: rows of segments marked and held; sides of a ring as an own row; FnExactRingSegs, walked. -/
namespace Go.Proofs.Ytdcajfgeleopiaa
open Go Go.RowKit
set_option linter.unusedSimpArgs false
set_option linter.unusedVariables false
set_option maxRecDepth 100000
attribute [local simp] szT2 byT2 agT2 unT2 zoT2 szT3 byT3 agT3 unT3 zoT3 szT39 byT39 agT39 elT39 unT39 zoT39 szT41 byT41 agT41 elT41 unT41 zoT41 szT43 byT43 agT43 flT43 fdT43_0 zoT43 szT102 byT102 agT102 flT102 fdT102_0 fdT102_1 zoT102 szT104 byT104 agT104 flT104 fdT104_0 fdT104_1 zoT104

section
attribute [local simp] Sp.av Sp.cells Sg.av Sg.cells
set_option maxHeartbeats 1000000 in
theorem sides_own (r : List Sp) (hl : r.length ≤ 1099511627776) (nx : Nat) : ACall Try.prog 69 [.agg [.isl (r.map Sp.cells)]] (fun _ => none) nx (own1 nx 4 ((sds r).map Sg.cells) (fun id => .osl id 0 r.length)) := by
 refine .b Try.func69 32 fun K hK => ?_
 refine .q ?_
 refine .q ?_
 refine .sq fun K3 hK3 => ?_
 refine .q ?_ (by simp (disch := first|omega|(simp only[ln];omega)) [List.length_map]; rfl)
 refine .block ?_
 
 refine .loop (fun N s => ∃ i : Nat, ∃ id : Nat, N = r.length - i ∧ i ≤ r.length ∧ (nx < id) ∧ s.env 1 = .ptr nx 0 0 ∧ s.env 3 = .osl id 0 i ∧ s.env 8 = .isl (r.map Sp.cells) ∧ s.env 9 = .int .i64 (r.length : Int) ∧ s.env 10 = .int .i64 (i : Int) ∧ s.heap nx = some (1, [[.isl (r.map Sp.cells)]]) ∧ nx < s.nx ∧ s.heap id = some (4, ((sds r).take i).map Sg.cells) ∧ id < s.nx ∧ s.nt = 32) (r.length) (by refine ⟨0, nx + 1, by omega, by omega, by omega, ?_, ?_, ?_, ?_, ?_, ?_, ?_, ?_, ?_, rfl⟩ <;> first|(simp (disch := omega);done)|omega|(simp;done)|(simp;omega)) ?_
 rintro N ⟨e, H, mm, nt⟩ ⟨i, id, rfl, hi, hid, g1, g3, g8, g9, g10, Hr, xr, Ho, xo, rfl⟩
 simp only [] at g1 g3 g8 g9 g10 Hr xr Ho xo
 refine .q ?_ (by simp (disch := first|omega|(simp only[ln];omega)) [g9, g10]; rfl)
 refine .sq fun K6 hK6 => ?_
 refine .c (fun h11 => ?_) (fun h11 => ?_)
 ·try simp only[dc]at h11
  have hi' : i < r.length := by omega
  have hat := rg_at hi'
  obtain ⟨j, hj⟩ : ∃ j : Nat, j = (i + 1) % r.length := ⟨_, rfl⟩
  have hjl : j < r.length := by rw [hj]; exact nx1_lt hi'
  have htm : Int.tmod ((i : Int) + 1) (r.length : Int) = (j : Int) := by rw [hj]; exact ite_tmod hi'
  have hat2 := rg_at hjl
  have hnj : gs r j = nx1 r i := by rw [hj]; rfl
  have hst := sds_take hi'
  have hc1 : i ≤ min i (sds r).length := by rw [sds_len]; omega
  have hc2 : (i + 1) * 32 ≤ 140737488355328 := by omega
  have hc3 : i ≤ 9223372036854775806 := by omega
  have hne : ¬ r = [] := by intro h; rw [h] at hi'; simp at hi'
  have htk : ((sds r).take i).length = i := by rw [List.length_take, sds_len]; omega
  refine .skip ?_
  refine hK6 _ ?_
  refine .sq fun K7 hK7 => ?_
  refine .block ?_
  refine .q ?_ (by simp (disch := first|omega|(simp only[ln];omega)) [if_pos, g8, g10, hat, List.length_map]; rfl)
  refine AWP.drawT 14 Try.checked.mixed (by kernel_rfl) (by kernel_rfl) ?_
  simp only [List.take_succ_cons, List.take_zero, List.drop_succ_cons, List.drop_zero]
  refine .k 12 (fun fs9 hfs9 => ?_) (by simp (disch := first|omega|(simp only[ln];omega)) [runDf.eq_def, runF1, runF2, stepF.eq_def, updo.eq_def, hupo.eq_def, opSto1.eq_def, List.take_succ_cons, List.take_zero, if_pos, g1, g3, Hr, Ho, hat, hat2, htm, hne, htk, hc1, hc2, hc3, List.length_map]; rfl)
  refine .f (segOf_fc (gs r i) (gs r j)) hb123 ?_ (ha := by simp (disch := first|omega|(simp only[ln];omega)) [idf_Wd', if_pos, g1, g3, Hr, Ho, hat, hat2, htm, hne, htk, hc1, hc2, hc3, List.length_map])
  refine .k 1 (fun fs10 hfs10 => ?_) (by simp (disch := first|omega|(simp only[ln];omega)) [runDf.eq_def, runF1, runF2, stepF.eq_def, updo.eq_def, hupo.eq_def, opSto1.eq_def, List.take_succ_cons, List.take_zero, if_pos, g1, g3, Hr, Ho, hat, hat2, htm, hne, htk, hc1, hc2, hc3, List.length_map]; rfl)
  simp only [DP]
  refine AOPS.opapp (by simp (disch := first|omega|(simp only[ln];omega)) [opApp.eq_def, aSrc_isl, aSrc_osl, aSrc_nsl, aSrc_int, wd_app, wd_app2, if_pos, wd_append, wd_take, wd_drop, List.nil_append, g1, g3, Hr, Ho, hat, hat2, htm, hne, htk, hc1, hc2, hc3, List.length_map, src_Wd' (P := Try.prog) elT39]; first | rfl | exact ⟨rfl, rfl⟩ | exact ⟨rfl, rfl, rfl⟩) (by simp) (by simp) ?_
  simp only [puts_some, hdrop]
  refine .e ?_ (by simp (disch := first|omega|(simp only[ln];omega)) [if_pos, g1, g3, Hr, Ho, hat, hat2, htm, hne, htk, hc1, hc2, hc3, List.length_map]; rfl)
  refine hK7 _ ?_
  refine .r ?_ (by simp (disch := first|omega|(simp only[ln];omega)) [g10]; rfl)
  refine ⟨r.length - (i + 1), by omega, i + 1, mm + 1 + 14, rfl, by omega, by omega, ?_, ?_, ?_, ?_, ?_, ?_, ?_, ?_, ?_, rfl⟩ <;> first|(simp (disch := omega) [g1, g3, g8, g9, g10, Hr, Ho, hst, hnj, List.take_take];done)|omega|(simp;done)|(simp;omega)
 ·try simp only[dc]at h11
  have hin : i = r.length := by omega
  have htl : (sds r).take i = sds r := by rw [hin, ← sds_len r, List.take_length]
  rw [htl] at Ho
  subst hin
  refine .exit ?_
  refine hK3 _ ?_
  refine .q ?_ (by simp (disch := first|omega|(simp only[ln];omega)) [g3]; rfl)
  refine .ret ?_
  exact hK _ _ _ _ _ trivial (Fin.own1 (Fin.mk (by simp (disch := omega) [aRes, aResL, aRes1]; try rfl)) (id := id) (by simp [Ho])) (⟨id, by first | omega | (simp; done) | (simp; omega), by first | omega | (simp; done) | (simp; omega), rfl, rfl⟩)
set_option maxHeartbeats 1000000 in
theorem ringSegs_own (r : List Sp) (hl : r.length ≤ 1099511627776) (hz : rgF r = 0) (nx : Nat) : ACall Try.prog 20 [.agg [.isl (r.map Sp.cells)]] (fun _ => none) nx (own1 nx 4 ((sds r).map Sg.cells) (fun id => .osl id 0 r.length)) := by
 obtain ⟨z1, z2, _⟩ := rgF_zero hz
 have hd : decide (rgF r = 0) = true := decide_eq_true hz
 refine .b Try.func20 8 fun K hK => ?_
 refine .q ?_
 refine .sq fun K2 hK2 => ?_
 refine .sq fun K3 hK3 => ?_
 refine .region ?_
 refine .kf 1 (isRing_fc r hl) hb68 ?_ (by simp (disch := first|omega|(simp only[ln];omega)) [List.take_succ_cons, List.take_zero, hd]; rfl) (ha := by simp (disch := first|omega|(simp only[ln];omega)) [idf_Wd', hd])
 refine .e ?_ (by simp (disch := first|omega|(simp only[ln];omega)) [hd]; rfl)
 refine hK3 _ ?_
 refine .c (fun h5 => ?_) (fun h5 => ?_)
 ·simp at h5
 ·try simp only[dc]at h5
  refine .skip ?_
  refine hK2 _ ?_
  refine .sq fun K4 hK4 => ?_
  refine .region ?_
  refine .k 1 ?_
  refine AOPS.ocallL 4 (sides_own r hl _) rfl rfl rfl hb69 (by simp (disch := first|omega|(simp only[ln];omega)) [lv, idf_Wd', lv_sp, lv_sg, lv_m2, lv_int, lv_bool, lv_nsl, lv_m4, List.map_map, List.length_map]) (⟨fun _ h => by simp [nwr, nwrL]; try exact h, by simp [nwr, nwrL, Sp.cells, Sg.cells]⟩) (by simp (disch := first|omega|(simp only[ln];omega))) (by simp) ?_
  intro id nx2 hi1 hi2
  simp only [] at hi1 hi2
  simp only [puts_some, updo]
  refine .e ?_
  refine hK4 _ ?_
  refine .ret ?_
  exact hK _ _ _ _ _ trivial (Fin.own1 (Fin.mk (by simp (disch := omega) [aRes, aResL, aRes1]; try rfl)) (id := id) (by simp (disch := omega))) (⟨id, by first | omega | (simp; done) | (simp; omega), by first | omega | (simp; done) | (simp; omega), rfl, rfl⟩)
theorem ringSegs_no (r : List Sp) (hl : r.length ≤ 1099511627776) (hz : ¬ rgF r = 0) : FC Try.prog 20 [.agg [.isl (r.map Sp.cells)]] (.nsl) := by
 have hd : decide (rgF r = 0) = false := decide_eq_false hz
 refine .b Try.func20 8 (fun nx K hK => ?_) (hi := by simp [idfL, idf, idfLL_iff, Sp.av, Sp.cells, Sg.av, Sg.cells])
 refine .q ?_
 refine .sq fun K2 hK2 => ?_
 refine .sq fun K3 hK3 => ?_
 refine .region ?_
 refine .kf 1 (isRing_fc r hl) hb68 ?_ (by simp (disch := first|omega|(simp only[ln];omega)) [List.take_succ_cons, List.take_zero, hd]; rfl) (ha := by simp (disch := first|omega|(simp only[ln];omega)) [idf_Wd', hd])
 refine .e ?_ (by simp (disch := first|omega|(simp only[ln];omega)) [hd]; rfl)
 refine hK3 _ ?_
 refine .c (fun h5 => ?_) (fun h5 => ?_)
 ·try simp only[dc]at h5
  refine .q ?_
  refine .ret ?_
  exact hK _ _ _ _ trivial ((Fin.mk (by simp (disch := omega) [aRes, aResL, aRes1]; try rfl)))
 ·simp at h5
end

end Go.Proofs.Ytdcajfgeleopiaa

/- Walks: rings in their form; FnExactRingForm, walked. -/
namespace Go.Proofs.Ytdcajfgeleopiaa
open Go Go.RowKit
set_option linter.unusedSimpArgs false
set_option linter.unusedVariables false
set_option maxRecDepth 100000
attribute [local simp] szT2 byT2 agT2 unT2 zoT2 szT3 byT3 agT3 unT3 zoT3 szT41 byT41 agT41 elT41 unT41 zoT41 szT102 byT102 agT102 flT102 fdT102_0 fdT102_1 zoT102 szT175 byT175 agT175 elT175 unT175 zoT175

theorem hbCmpS : hasBody Try.prog 94 = true := hb94
theorem lsS_decI (p q : Sp) : decide (cmS p q < 0) = lsS p q := by rw [Bool.eq_iff_iff, decide_eq_true_eq]; exact cmS_neg
theorem turned_fc (r : List Sp) (hl0 : 1 ≤ r.length) (hl : r.length ≤ 1099511627776) : FC Try.prog 91 [.agg [.isl (r.map Sp.cells)]] (.agg [.isl ((turnR r).map Sp.cells)]) :=
  FC.of_own (z := 2) (es := (turnR r).map Sp.cells) (mk := fun id => .agg [.osl id 0 r.length]) (by simp [idfL, idf, idfLL_iff, Sp.cells]) (by simp [idfL, idf, idfLL_iff, Sp.cells])
    (fun id => by simp only [fz, fzL]; exact congrArg (fun x => AV.agg [x]) (by have := fz_fill (id := id) Sp.cells (turnR r) (turnR_len r).symm; simpa [fz] using this)) fun nx => turned_own r hl0 hl nx
theorem rgs_at {L : List (List Sp)} {i : Nat} (h : i < L.length) : (L.map rgC)[i]? = some [.isl ((gr L i).map Sp.cells)] := by rw [List.getElem?_map, gr_get h]; rfl
theorem plnS1 (l : List Sp) : (∀ c ∈ l.map Sp.cells, c.length = 2 ∧ c.all avOne = true) = True := by
  simp only [eq_iff_iff, iff_true]
  intro c hc
  obtain ⟨p, _, rfl⟩ := List.mem_map.1 hc
  exact ⟨rfl, by simp [Sp.cells, avOne]⟩
theorem plnS (l : List Sp) : ∀ c ∈ l.map Sp.cells, ∀ x ∈ c, pln x := by
  intro c hc x hx
  obtain ⟨p, _, rfl⟩ := List.mem_map.1 hc
  simp only [Sp.cells, List.mem_cons, List.not_mem_nil, or_false] at hx
  rcases hx with rfl | rfl <;> trivial

section
attribute [local simp] Sp.av Sp.cells Sg.av Sg.cells
set_option maxHeartbeats 2000000 in
theorem minSp_fc (l : List Sp) (h0 : 1 ≤ l.length) (hl : l.length ≤ 1099511627776) : FC Try.prog 93 [.isl (l.map Sp.cells), .fn 94 []] (.agg [.int .i64 (gs l (leL l)).x, .int .i64 (gs l (leL l)).y]) := by
 have hat0 := rg_at (r := l) (i := 0) (by omega)
 have hne : ¬ l = [] := by intro h; rw [h] at h0; simp at h0
 refine .b Try.func93 33 (fun nx K hK => ?_) (hi := by simp [idfL, idf, idfLL_iff, Sp.av, Sp.cells, Sg.av, Sg.cells])
 refine .q ?_
 refine .sq fun K2 hK2 => ?_
 refine .q ?_ (by simp (disch := first|omega|(simp only[ln];omega)) [List.length_map]; rfl)
 refine .c (t := decide ((l.length : Int) < 1)) (fun h9 => ?_) (fun h9 => ?_)
 ·simp at h9; omega
 ·try simp only[dc]at h9
  refine .skip ?_
  refine hK2 _ ?_
  refine .q ?_ (by simp (disch := first|omega|(simp only[ln];omega)) [if_pos, hat0, hne, h0, List.length_map]; rfl)
  refine .sq fun K5 hK5 => ?_
  refine .q ?_
  refine .block ?_
  refine .loop (fun N s => ∃ i : Nat, N = l.length - i ∧ 1 ≤ i ∧ i ≤ l.length ∧ s.env 4 = .ptr nx 0 0 ∧ s.env 5 = .ptr (nx + 1) 0 0 ∧ s.env 0 = .isl (l.map Sp.cells) ∧ s.env 1 = .fn 94 [] ∧ s.env 6 = .int .i64 (i : Int) ∧ s.heap (nx + 1) = some (2, [[.int .i64 (mnS l i).x, .int .i64 (mnS l i).y]]) ∧ (nx + 1) < s.nx ∧ s.heap nx = some (2, [[.int .i64 0, .int .i64 0]]) ∧ nx < s.nx ∧ s.nt = 33) (l.length - 1) (by refine ⟨1, by omega, by omega, by omega, ?_, ?_, ?_, ?_, ?_, ?_, ?_, ?_, ?_, rfl⟩ <;> first|(simp (disch := omega) [mnS_one];done)|omega|(simp;done)|(simp;omega)) ?_
  rintro N ⟨e, H, mm, nt⟩ ⟨i, rfl, h1, hi, g4, g5, g0, g1, g6, Hm, xm, Hz, xz, rfl⟩
  simp only [] at g4 g5 g0 g1 g6 Hm xm Hz xz
  refine .sq fun K7 hK7 => ?_
  refine .q ?_ (by simp (disch := first|omega|(simp only[ln];omega)) [g0, g6, List.length_map]; rfl)
  refine .c (fun h17 => ?_) (fun h17 => ?_)
  ·try simp only[dc]at h17
   have hi' : i < l.length := by omega
   have hat := rg_at hi'
   have hst := mnS_step (l := l) h1
   refine .skip ?_
   refine hK7 _ ?_
   refine .sq fun K9 hK9 => ?_
   have J9 : ∀ s : St, (s.env 4 = .ptr nx 0 0 ∧ s.env 5 = .ptr (nx + 1) 0 0 ∧ s.env 0 = .isl (l.map Sp.cells) ∧ s.env 1 = .fn 94 [] ∧ s.env 6 = .int .i64 (i : Int) ∧ s.heap (nx + 1) = some (2, [[.int .i64 (mnS l (i + 1)).x, .int .i64 (mnS l (i + 1)).y]]) ∧ (nx + 1) < s.nx ∧ s.heap nx = some (2, [[.int .i64 0, .int .i64 0]]) ∧ nx < s.nx ∧ s.nt = 33) → K9 s := by
    rintro ⟨e, H, mm, nt⟩ ⟨g4j, g5j, g0j, g1j, g6j, Hmj, xmj, Hzj, xzj, rfl⟩
    simp only [] at g4j g5j g0j g1j g6j Hmj xmj Hzj xzj
    refine hK9 _ ?_
    refine .r ?_ (by simp (disch := first|omega|(simp only[ln];omega)) [g4j, g5j, g0j, g1j, g6j, Hmj, Hzj]; rfl)
    refine ⟨l.length - (i + 1), by omega, i + 1, rfl, by omega, by omega, ?_, ?_, ?_, ?_, ?_, ?_, ?_, ?_, ?_, rfl⟩ <;> first|(simp (disch := omega) [g4j, g5j, g0j, g1j, g6j, Hmj, Hzj];done)|omega|(simp;done)|(simp;omega)
   refine .block ?_
   refine .sq fun K10 hK10 => ?_
   refine .d 8 ?_
   refine .k 6 (fun fs11 hfs11 => ?_) (by simp (disch := first|omega|(simp only[ln];omega)) [runDf.eq_def, runF1, runF2, stepF.eq_def, updo.eq_def, hupo.eq_def, opSto1.eq_def, List.take_succ_cons, List.take_zero, if_pos, g0, g1, g5, g6, Hm, hat, List.length_map]; rfl)
   refine DP.fcall (cmpSpots_fc (gs l i) (mnS l i)) rfl rfl (by simp; rfl) hbCmpS (by simp (disch := first|omega|(simp only[ln];omega)) [idf_Wd', g0, g1, g5, g6, Hm, hat, List.length_map]) (by simp (disch := first|omega|(simp only[ln];omega)) [g0, g1, g5, g6, Hm, hat, List.length_map]) (by simp) ?_
   simp only [updo]
   refine .k 1 (fun fs12 hfs12 => ?_) (by simp (disch := first|omega|(simp only[ln];omega)) [runDf.eq_def, runF1, runF2, stepF.eq_def, updo.eq_def, hupo.eq_def, opSto1.eq_def, List.take_succ_cons, List.take_zero, if_pos, g0, g1, g5, g6, Hm, hat, List.length_map]; rfl)
   refine .r 8 (by simp only[ln, hfs11, hfs12];omega) ?_ (by simp (disch := first|omega|(simp only[ln];omega)) [runDf.eq_def, runF1, runF2, stepF.eq_def, updo.eq_def, hupo.eq_def, opSto1.eq_def, if_pos, g0, g1, g5, g6, Hm, hat, List.length_map]; rfl)
   refine hK10 _ ?_
   refine .c (t := lsS (gs l i) (mnS l i)) (fun h27 => ?_) (fun h27 => ?_) (by simp (disch := first|omega|(simp only[ln];omega)) [lsS_decI])
   ·try simp only[dc]at h27
    rw [if_pos h27] at hst
    refine .r ?_ (by simp (disch := first|omega|(simp only[ln];omega)) [if_pos, g0, g5, g6, Hm, hat, List.length_map]; rfl)
    refine J9 _ ?_
    refine ⟨?_, ?_, ?_, ?_, ?_, ?_, ?_, ?_, ?_, rfl⟩ <;> first|(simp (disch := omega) [g4, g5, g0, g1, g6, Hm, Hz, hst];done)|omega|(simp;done)|(simp;omega)
   ·try simp only[dc]at h27
    rw [if_neg (by rw [h27]; simp)] at hst
    refine .skip ?_
    refine J9 _ ?_
    refine ⟨?_, ?_, ?_, ?_, ?_, ?_, ?_, ?_, ?_, rfl⟩ <;> first|(simp (disch := omega) [g4, g5, g0, g1, g6, Hm, Hz, hst];done)|omega|(simp;done)|(simp;omega)
  ·try simp only[dc]at h17
   have hin : i = l.length := by omega
   subst hin
   refine .exit ?_
   refine hK5 _ ?_
   refine .q ?_ (by simp (disch := first|omega|(simp only[ln];omega)) [g4, g5, Hm, Hz]; rfl)
   refine .ret ?_
   exact hK _ _ _ _ trivial ((Fin.mk (by simp (disch := omega) [aRes, aResL, aRes1, g4, g5, Hm, Hz]; try rfl)).cast (by rw [mnS_end]))
set_option maxHeartbeats 1000000 in
theorem grow_own (n : Nat) (h0 : 0 < n) (hn : n ≤ 1099511627776) (nx : Nat) : ACall Try.prog 148 [.nsl, .int .i64 (n : Int)] (fun _ => none) nx (own1 nx 2 (List.replicate n [.int .i64 0, .int .i64 0]) (fun id => .osl id 0 0)) := by
 have e1 : ((n : Int)).toNat = n := rfl
 have q1 : n * 16 ≤ 281474976710656 := by omega
 have q2 : n * 16 ≤ 140737488355328 := by omega
 have q3 : n ≤ 9223372036854775807 := by omega
 have q4 : (n : Int) ≤ 9223372036854775807 := by omega
 have q5 : ¬ n = 0 := by omega
 refine .b Try.func148 27 fun K hK => ?_
 refine .q ?_
 refine .sq fun K2 hK2 => ?_
 refine .q ?_
 refine .c (t := decide ((n : Int) < 0)) (fun h6 => ?_) (fun h6 => ?_)
 ·simp at h6; omega
 ·try simp only[dc]at h6
  refine .skip ?_
  refine hK2 _ ?_
  refine .sq fun K4 hK4 => ?_
  refine .q ?_
  refine .q ?_
  refine .c (t := decide (0 < (n : Int))) (fun h16 => ?_) (fun h16 => ?_)
  ·try simp only[dc]at h16
   refine .region ?_
   refine .k 5 ?_ (by simp (disch := first|omega|(simp only[ln];omega)) [List.take_succ_cons, List.take_zero, if_pos, e1, q1, q2, q3, q4, q5, h0]; rfl)
   refine AOPS.opapp (by simp (disch := first|omega|(simp only[ln];omega)) [opApp.eq_def, aSrc_isl, aSrc_osl, aSrc_nsl, aSrc_int, wd_app, wd_app2, if_pos, wd_append, wd_take, wd_drop, List.nil_append, e1, q1, q2, q3, q4, q5, h0]; first | rfl | exact ⟨rfl, rfl⟩ | exact ⟨rfl, rfl, rfl⟩) (by simp) (by simp) ?_
   simp only [puts_some, hdrop]
   refine .e ?_ (by simp (disch := first|omega|(simp only[ln];omega)) [if_pos, e1, q1, q2, q3, q4, q5, h0]; rfl)
   refine hK4 _ ?_
   refine .q ?_
   refine .ret ?_
   exact hK _ _ _ _ _ trivial (Fin.own1 (Fin.mk (by simp (disch := omega) [aRes, aResL, aRes1]; try rfl)) (id := nx) (by simp (disch := omega))) (⟨nx, by first | omega | (simp; done) | (simp; omega), by first | omega | (simp; done) | (simp; omega), rfl, rfl⟩)
  ·simp at h16; omega
set_option maxHeartbeats 4000000 in
theorem concat_fo (L : List (List Sp)) (h0 : 0 < lyN L) (hn : lyN L ≤ 1099511627776) (hL : L.length ≤ 1099511627776) : FO Try.prog 95 [rgs L] 2 (L.flatten.map Sp.cells) := by
 refine FO.body Try.func95 rfl (by simp [idfL, idf, idfLL_iff, rgs, rgC, Sp.cells]) (plnS _) 36 rfl fun nx K hK => ?_
 refine .q ?_
 refine .q ?_
 refine .sq fun K3 hK3 => ?_
 refine .q ?_ (by simp (disch := first|omega|(simp only[ln];omega)) [rgs, List.length_map]; rfl)
 refine .block ?_
 
 refine .loop (fun N s => ∃ i : Nat, N = L.length - i ∧ i ≤ L.length ∧ s.env 0 = rgs L ∧ s.env 3 = .int .i64 (lyN (L.take i) : Int) ∧ s.env 10 = .int .i64 (L.length : Int) ∧ s.env 11 = .int .i64 (i : Int) ∧ s.env 9 = rgs L ∧ s.nt = 36) (L.length) (by refine ⟨0, by omega, by omega, ?_, ?_, ?_, ?_, ?_, rfl⟩ <;> first|(simp (disch := omega) [lyN, rgs];done)|omega|(simp;done)|(simp;omega)) ?_
 rintro N ⟨e, H, mm, nt⟩ ⟨i, rfl, hi, g0, g3, g10, g11, g9, rfl⟩
 simp only [] at g0 g3 g10 g11 g9
 refine .q ?_ (by simp (disch := first|omega|(simp only[ln];omega)) [g10, g11]; rfl)
 refine .sq fun K6 hK6 => ?_
 refine .c (fun h12 => ?_) (fun h12 => ?_)
 ·try simp only[dc]at h12
  have hi' : i < L.length := by omega
  have hat := rgs_at hi'
  have hst := lyN_step hi'
  have hb := lyN_le (L := L) (i + 1)
  have hb' := lyN_le (L := L) i
  refine .skip ?_
  refine hK6 _ ?_
  refine .sq fun K7 hK7 => ?_
  refine .block ?_
  refine .q ?_ (by simp (disch := first|omega|(simp only[ln];omega)) [if_pos, g9, g11, hat, rgs, List.length_map]; rfl)
  refine .q ?_ (by simp (disch := first|omega|(simp only[ln];omega)) [g3, hst, List.length_map]; rfl)
  refine .q ?_ (by simp (disch := first|omega|(simp only[ln];omega)) [hst]; rfl)
  refine .c (t := decide ((lyN (L.take (i + 1)) : Int) < 0)) (fun h20 => ?_) (fun h20 => ?_) (by simp (disch := first|omega|(simp only[ln];omega)) [hst, g3])
  ·simp at h20; omega
  ·try simp only[dc]at h20
   refine .skip ?_
   refine hK7 _ ?_
   refine .r ?_ (by simp (disch := first|omega|(simp only[ln];omega)) [g0, g3, g10, g11, g9]; rfl)
   refine ⟨L.length - (i + 1), by omega, i + 1, rfl, by omega, ?_, ?_, ?_, ?_, ?_, rfl⟩ <;> first|(simp (disch := omega) [g0, g3, g10, g11, g9, hst];done)|omega|(simp;done)|(simp;omega)
 ·try simp only[dc]at h12
  have hin : i = L.length := by omega
  subst hin
  rw [List.take_length] at g3
  refine .exit ?_
  refine hK3 _ ?_
  refine .sq fun K11 hK11 => ?_
  refine .region ?_
  refine .k 1 ?_ (by simp (disch := first|omega|(simp only[ln];omega)) [List.take_succ_cons, List.take_zero, g3]; rfl)
  refine AOPS.ocallL 4 (grow_own (lyN L) h0 hn _) rfl rfl rfl hb148 (by simp (disch := first|omega|(simp only[ln];omega)) [lv, idf_Wd', g3]) (⟨fun _ h => by simp [nwr, nwrL]; try exact h, by simp [nwr, nwrL, Sp.cells, Sg.cells]⟩) (by simp (disch := first|omega|(simp only[ln];omega)) [g3]) (by simp) ?_
  intro id nx2 hi1 hi2
  simp only [] at hi1 hi2
  simp only [puts_some, updo]
  refine .e ?_ (by simp (disch := first|omega|(simp only[ln];omega)) [g3]; rfl)
  refine hK11 _ ?_
  refine .sq fun K12 hK12 => ?_
  refine .q ?_ (by simp (disch := first|omega|(simp only[ln];omega)) [g0, rgs, List.length_map]; rfl)
  refine .block ?_
  
  refine .loop (fun N s => ∃ i : Nat, ∃ id : Nat, ∃ E : List (List AV), N = L.length - i ∧ i ≤ L.length ∧ (E.take (lyN (L.take i)) = (L.take i).flatten.map Sp.cells) ∧ (0 < i → E = (L.take i).flatten.map Sp.cells) ∧ (lyN (L.take i) ≤ E.length) ∧ s.env 25 = rgs L ∧ s.env 26 = .int .i64 (L.length : Int) ∧ s.env 27 = .int .i64 (i : Int) ∧ s.env 6 = .osl id 0 (lyN (L.take i)) ∧ s.heap id = some (2, E) ∧ id < s.nx ∧ s.nt = 36) (L.length) (by refine ⟨0, id, List.replicate (lyN L) [.int .i64 0, .int .i64 0], by omega, by omega, by simp [lyN], fun h => by omega, by simp [lyN], ?_, ?_, ?_, ?_, ?_, ?_, rfl⟩ <;> first|(simp (disch := omega) [lyN, rgs];done)|omega|(simp;done)|(simp;omega)|(simp (disch := omega) [lyN, rgs] <;> omega)) ?_
  rintro N ⟨e, H, mm, nt⟩ ⟨i, id, E, rfl, hi, hE, hE2, hEl, g25, g26, g27, g6, Ho, xo, rfl⟩
  simp only [] at g25 g26 g27 g6 Ho xo
  refine .q ?_ (by simp (disch := first|omega|(simp only[ln];omega)) [g26, g27]; rfl)
  refine .sq fun K15 hK15 => ?_
  refine .c (fun h28 => ?_) (fun h28 => ?_)
  ·try simp only[dc]at h28
   have hi' : i < L.length := by omega
   have hat := rgs_at hi'
   have hst := lyN_step hi'
   have hb := lyN_le (L := L) (i + 1)
   have hEn : E.take (lyN (L.take i)) ++ (gr L i).map Sp.cells = (L.take (i + 1)).flatten.map Sp.cells := by rw [hE, flat_step hi', List.map_append]
   have hEm : ((L.take (i + 1)).flatten.map Sp.cells).length = lyN (L.take (i + 1)) := by rw [List.length_map, flatS_len]
   have hc1 : (lyN (L.take i) + (gr L i).length) * 16 ≤ 140737488355328 := by omega
   have hc2 : lyN (L.take i) + (gr L i).length ≤ 9223372036854775807 := by omega
   refine .skip ?_
   refine hK15 _ ?_
   refine .sq fun K16 hK16 => ?_
   refine .block ?_
   refine .q ?_ (by simp (disch := first|omega|(simp only[ln];omega)) [if_pos, g25, g27, hat, rgs, List.length_map]; rfl)
   refine .region ?_
   refine .k 2 ?_ (by simp (disch := first|omega|(simp only[ln];omega)) [List.take_succ_cons, List.take_zero, g6]; rfl)
   refine AOPS.opapp (by simp (disch := first|omega|(simp only[ln];omega)) [opApp.eq_def, aSrc_isl, aSrc_osl, aSrc_nsl, aSrc_int, wd_app, wd_app2, if_pos, wd_append, wd_take, wd_drop, List.nil_append, g6, Ho, hEl, hc1, hc2, plnS1, List.length_map, src_Wd' (P := Try.prog) elT41]; first | rfl | exact ⟨rfl, rfl⟩ | exact ⟨rfl, rfl, rfl⟩) (by simp) (by simp) ?_
   simp only [puts_some, hdrop]
   refine .e ?_ (by simp (disch := first|omega|(simp only[ln];omega)) [g6]; rfl)
   refine hK16 _ ?_
   refine .r ?_ (by simp (disch := first|omega|(simp only[ln];omega)) [g27]; rfl)
   refine ⟨L.length - (i + 1), by omega, i + 1, mm, (L.take (i + 1)).flatten.map Sp.cells, rfl, by omega, by rw [← hEm, List.take_length], fun _ => rfl, by rw [hEm]; exact Nat.le_refl _, ?_, ?_, ?_, ?_, ?_, ?_, rfl⟩ <;> first|(simp (disch := omega) [g25, g26, g27, g6, Ho, hEn, hEm, hst];done)|omega|(simp;done)|(simp;omega)|(simp (disch := omega) [g25, g26, g27, g6, Ho, hEn, hEm, hst] <;> omega)
  ·try simp only[dc]at h28
   have hin : i = L.length := by omega
   subst hin
   have hLp : 0 < L.length := by
     rcases Nat.eq_zero_or_pos L.length with h | h
     · rw [List.length_eq_zero_iff.1 h] at h0; simp [lyN] at h0
     · exact h
   have hE3 := hE2 hLp
   rw [List.take_length] at hE3 g6
   rw [hE3] at Ho
   rw [← flatS_len, ← List.length_map (f := Sp.cells)] at g6
   refine .exit ?_
   refine hK12 _ ?_
   refine .q ?_ (by simp (disch := first|omega|(simp only[ln];omega)) [g6]; rfl)
   refine .ret ?_
   exact hK _ _ (id) _ _ trivial (((Fin.mk (r := .osl id 0 (L.flatten.map Sp.cells).length) (by simp [aRes, aResL, aRes1]))).cast (rfl)) (by simp [Ho])
end

end Go.Proofs.Ytdcajfgeleopiaa

/- Walks: FnExactRingForm, walked. -/
namespace Go.Proofs.Ytdcajfgeleopiaa
open Go Go.RowKit
set_option linter.unusedSimpArgs false
set_option linter.unusedVariables false
set_option maxRecDepth 100000
attribute [local simp] szT2 byT2 agT2 unT2 zoT2 szT3 byT3 agT3 unT3 zoT3 szT35 byT35 agT35 elT35 unT35 zoT35 szT37 byT37 agT37 flT37 fdT37_0 zoT37 szT41 byT41 agT41 elT41 unT41 zoT41 szT43 byT43 agT43 flT43 fdT43_0 zoT43 szT102 byT102 agT102 flT102 fdT102_0 fdT102_1 zoT102 szT175 byT175 agT175 elT175 unT175 zoT175

theorem szS (l : List Sp) : (∀ c ∈ l.map Sp.cells, c.length = 2) = True := by
  simp only [eq_iff_iff, iff_true]
  intro c hc
  obtain ⟨p, _, rfl⟩ := List.mem_map.1 hc
  rfl
theorem szS' (l : List Sp) : (∀ a ∈ l, (Sp.cells a).length = 2) = True := by
  simp only [eq_iff_iff, iff_true]
  intro c _; rfl

section
attribute [local simp] Sp.av Sp.cells Sg.av Sg.cells
set_option maxHeartbeats 4000000 in
theorem ringForm_own (r : List Sp) (hl : r.length ≤ 1099511627776) (hz : rgF r = 0) (nx : Nat) : ACall Try.prog 42 [.agg [.isl (r.map Sp.cells)]] (fun _ => none) nx (own1 nx 2 ((fmR r).map Sp.cells) (fun id => .agg [.osl id 0 r.length])) := by
 obtain ⟨z1, z2, z3, z4, _⟩ := rgF_zero hz
 have hd : decide (rgF r = 0) = true := decide_eq_true hz
 refine .b Try.func42 30 fun K hK => ?_
 refine .q ?_
 refine .sq fun K2 hK2 => ?_
 refine .sq fun K3 hK3 => ?_
 refine .region ?_
 refine .kf 1 (isRing_fc r hl) hb68 ?_ (by simp (disch := first|omega|(simp only[ln];omega)) [List.take_succ_cons, List.take_zero, hd]; rfl) (ha := by simp (disch := first|omega|(simp only[ln];omega)) [idf_Wd', hd])
 refine .e ?_ (by simp (disch := first|omega|(simp only[ln];omega)) [hd]; rfl)
 refine hK3 _ ?_
 refine .c (fun h6 => ?_) (fun h6 => ?_)
 ·simp at h6
 ·try simp only[dc]at h6
  refine .skip ?_
  refine hK2 _ ?_
  refine .sq fun K4 hK4 => ?_
  have J4 : ∀ s : St, (s.env 1 = .ptr nx 0 0 ∧ s.env 2 = .ptr (nx + 1) 0 0 ∧ s.heap nx = some (1, [[.isl ((fmB r).map Sp.cells)]]) ∧ nx < s.nx ∧ s.heap (nx + 1) = some (1, [[.nsl]]) ∧ (nx + 1) < s.nx ∧ s.nt = 30) → K4 s := by
   rintro ⟨e, H, mm, nt⟩ ⟨g1, g2, Hr, xr, Hz, xz, rfl⟩
   simp only [] at g1 g2 Hr xr Hz xz
   obtain ⟨l, hlB⟩ : ∃ l, fmB r = l := ⟨_, rfl⟩
   have hlen : l.length = r.length := by rw [← hlB, fmB_len]
   have hfm : fmR r = rotR l (leL l) := by unfold fmR; rw [hlB]
   rw [hlB] at Hr
   have l1 : 1 ≤ l.length := by omega
   have l2 : l.length ≤ 1099511627776 := by omega
   have mn := minSp_fc l l1 l2
   have ix := indexSp_fc l (gs l (leL l)) (by omega)
   rw [ixI_le l1] at ix
   have kl := leL_lt l1
   obtain ⟨k, hk⟩ : ∃ k, leL l = k := ⟨_, rfl⟩
   rw [hk] at mn ix kl hfm
   have cc := concat_fo [l.drop k, l.take k] (by simp only [lyN, List.length_drop, List.length_take]; omega) (by simp only [lyN, List.length_drop, List.length_take]; omega) (by simp)
   have hes : [l.drop k, l.take k].flatten.map Sp.cells = (fmR r).map Sp.cells := by rw [hfm]; unfold rotR; simp
   have hel : ((fmR r).map Sp.cells).length = r.length := by rw [List.length_map, fmR_len]
   rw [hes] at cc
   simp only [rgs, rgC, List.map_cons, List.map_nil, List.map_drop, List.map_take] at cc
   have zs := szS l
   have tk0 : List.take l.length (List.map Sp.cells l) = List.map Sp.cells l := List.take_of_length_le (by rw [List.length_map]; omega)
   have zs' := szS' l
   refine hK4 _ ?_
   refine .sq fun K5 hK5 => ?_
   refine .d 6 ?_
   refine .k 4 (fun fs6 hfs6 => ?_) (by simp (disch := first|omega|(simp only[ln];omega)) [runDf.eq_def, runF1, runF2, stepF.eq_def, updo.eq_def, hupo.eq_def, opSto1.eq_def, List.take_succ_cons, List.take_zero, g1, Hr, List.length_map]; rfl)
   refine .f mn hb93 ?_ (ha := by simp (disch := first|omega|(simp only[ln];omega)) [idf_Wd', g1, Hr, List.length_map])
   refine .f ix hb92 ?_ (ha := by simp (disch := first|omega|(simp only[ln];omega)) [idf_Wd', g1, Hr, List.length_map])
   refine .r 6 (by simp only[ln, hfs6];omega) ?_ (by simp (disch := first|omega|(simp only[ln];omega)) [runDf.eq_def, runF1, runF2, stepF.eq_def, updo.eq_def, hupo.eq_def, opSto1.eq_def, g1, Hr, List.length_map]; rfl)
   refine hK5 _ ?_
   refine .sq fun K7 hK7 => ?_
   refine .d 11 ?_
   refine .k 9 (fun fs8 hfs8 => ?_) (by simp (disch := first|omega|(simp only[ln];omega)) [runDf.eq_def, runF1, runF2, stepF.eq_def, updo.eq_def, hupo.eq_def, opSto1.eq_def, List.take_succ_cons, List.take_zero, if_pos, g1, g2, Hr, Hz, kl, zs, zs', tk0, Nat.le_of_lt kl, List.length_map]; rfl)
   refine DP.ocall (cc) rfl rfl rfl hb95 (by simp (disch := first|omega|(simp only[ln];omega)) [idf_Wd', g1, g2, Hr, Hz, kl, zs, zs', tk0, Nat.le_of_lt kl, List.length_map]) (by simp (disch := first|omega|(simp only[ln];omega)) [g1, g2, Hr, Hz, kl, zs, zs', tk0, Nat.le_of_lt kl, List.length_map]) (by simp) ?_
   simp only [updo]
   refine .k 1 (fun fs9 hfs9 => ?_) (by simp (disch := first|omega|(simp only[ln];omega)) [runDf.eq_def, runF1, runF2, stepF.eq_def, updo.eq_def, hupo.eq_def, opSto1.eq_def, List.take_succ_cons, List.take_zero, if_pos, g1, g2, Hr, Hz, kl, zs, zs', tk0, Nat.le_of_lt kl, List.length_map]; rfl)
   refine .r 11 (by simp only[ln, hfs8, hfs9];omega) ?_ (by simp (disch := first|omega|(simp only[ln];omega)) [runDf.eq_def, runF1, runF2, stepF.eq_def, updo.eq_def, hupo.eq_def, opSto1.eq_def, if_pos, g1, g2, Hr, Hz, kl, zs, zs', tk0, Nat.le_of_lt kl, List.length_map]; rfl)
   refine hK7 _ ?_
   refine .ret ?_
   exact hK _ _ _ _ _ trivial (Fin.own1 (Fin.mk (by simp (disch := omega) [aRes, aResL, aRes1, g2, fmR_len]; try rfl)) (id := (mm + 7 + 9)) (by simp (disch := omega) [Hz])) (⟨(mm + 7 + 9), by first | omega | (simp; done) | (simp; omega), by first | omega | (simp; done) | (simp; omega), rfl, rfl⟩)
  refine .sq fun K10 hK10 => ?_
  refine .region ?_
  refine .kf 1 (area2I_fc r z3 z2) hb90 ?_
  refine .e ?_
  refine hK10 _ ?_
  refine .c (t := decide (area r < 0)) (fun h10 => ?_) (fun h10 => ?_)
  ·try simp only[dc]at h10
   refine .region ?_
   refine .kf 1 (turned_fc r (by omega) hl) hb91 ?_
   refine .e ?_
   refine J4 _ ?_
   refine ⟨?_, ?_, ?_, ?_, ?_, ?_, rfl⟩ <;> first|(simp (disch := omega) [fmB, h10];done)|(unfold fmB;rw [if_pos h10];simp (disch := omega);done)|(unfold fmB;rw [if_neg h10];simp (disch := omega);done)|omega|(simp;done)|(simp;omega)
  ·try simp only[dc]at h10
   refine .skip ?_
   refine J4 _ ?_
   refine ⟨?_, ?_, ?_, ?_, ?_, ?_, rfl⟩ <;> first|(simp (disch := omega) [fmB, h10];done)|(unfold fmB;rw [if_pos h10];simp (disch := omega);done)|(unfold fmB;rw [if_neg h10];simp (disch := omega);done)|omega|(simp;done)|(simp;omega)
theorem ringForm_no (r : List Sp) (hl : r.length ≤ 1099511627776) (hz : ¬ rgF r = 0) : FC Try.prog 42 [.agg [.isl (r.map Sp.cells)]] (.agg [.nsl]) := by
 have hd : decide (rgF r = 0) = false := decide_eq_false hz
 refine .b Try.func42 30 (fun nx K hK => ?_) (hi := by simp [idfL, idf, idfLL_iff, Sp.av, Sp.cells, Sg.av, Sg.cells])
 refine .q ?_
 refine .sq fun K2 hK2 => ?_
 refine .sq fun K3 hK3 => ?_
 refine .region ?_
 refine .kf 1 (isRing_fc r hl) hb68 ?_ (by simp (disch := first|omega|(simp only[ln];omega)) [List.take_succ_cons, List.take_zero, hd]; rfl) (ha := by simp (disch := first|omega|(simp only[ln];omega)) [idf_Wd', hd])
 refine .e ?_ (by simp (disch := first|omega|(simp only[ln];omega)) [hd]; rfl)
 refine hK3 _ ?_
 refine .c (fun h6 => ?_) (fun h6 => ?_)
 ·try simp only[dc]at h6
  refine .q ?_
  refine .ret ?_
  exact hK _ _ _ _ trivial ((Fin.mk (by simp (disch := omega) [aRes, aResL, aRes1]; try rfl)))
 ·simp at h6
end
end Go.Proofs.Ytdcajfgeleopiaa

/- Walks: drawn rings. -/
namespace Go.Proofs.Ytdcajfgeleopiaa
open Go Go.RowKit
set_option linter.unusedSimpArgs false
set_option linter.unusedVariables false
set_option maxRecDepth 100000
attribute [local simp] szT2 byT2 agT2 unT2 zoT2 szT3 byT3 agT3 unT3 zoT3 szT41 byT41 agT41 elT41 unT41 zoT41 szT43 byT43 agT43 flT43 fdT43_0 zoT43 szT102 byT102 agT102 flT102 fdT102_0 fdT102_1 zoT102

theorem gs_ok {S : List Sp} (h : ∀ p ∈ S, Sp.ok p) (i : Nat) : Sp.ok (gs S i) := by
  by_cases hi : i < S.length
  · exact h _ (gs_mem hi)
  · unfold gs; rw [List.getD_eq_getElem?_getD, List.getElem?_eq_none (by omega)]; simp [Sp.ok, I64] <;> decide
theorem plnS3 (l : List Sp) : (∀ a ∈ l, (Sp.cells a).length = 2 ∧ ∀ x ∈ Sp.cells a, avOne x = true) = True := by
  simp only [eq_iff_iff, iff_true]
  intro p _
  exact ⟨rfl, by simp [Sp.cells, avOne]⟩
theorem ok_set {S : List Sp} (h : ∀ p ∈ S, Sp.ok p) {i : Nat} {p : Sp} (hp : Sp.ok p) : ∀ q ∈ S.set i p, Sp.ok q := fun q hq => by
  rcases List.mem_or_eq_of_mem_set hq with h1 | rfl
  · exact h _ h1
  · exact hp
theorem hrestr_or {H G : Heap} {nx i2 : Nat} {x : Option (Nat × List (List AV))} (h : hrestr (fun i => decide (i < nx)) H = G) (h2 : H i2 = x) (hn : nx ≤ i2) : hrestr (fun i => decide (i < nx) || decide (i = i2)) H = hupd G i2 x := by
  funext i
  have hi := congrFun h i
  simp only [hrestr, hupd] at *
  by_cases e : i = i2
  · subst e; simp [h2]
  · simpa [e] using hi

set_option maxHeartbeats 8000000 in
theorem ring_ac (l : List Int) (p id : Nat) (H0 : Heap) (nx : Nat) (dl : Dig 256 l) (hl : l.length ≤ 1048576) (hp : p ≤ l.length) (hH : H0 id = some (2, [[Wd .u8 l, .int .i64 (p : Int)]])) (hd : ∀ i q, H0 i = some q → i < nx) : ACall Try.prog 83 [.ptr id 0 0] H0 nx (fun r H' nx' => ∃ (S : List Sp) (i2 q : Nat), r = .agg [.osl i2 0 S.length] ∧ (∀ p ∈ S, Sp.ok p) ∧ 3 ≤ S.length ∧ S.length ≤ 12 ∧ q ≤ l.length ∧ H' = hupd (hupd H0 id (some (2, [[Wd .u8 l, .int .i64 (q : Int)]]))) i2 (some (2, S.map Sp.cells)) ∧ nx ≤ i2 ∧ i2 < nx') := by
 have hid := hd id _ hH
 refine .b Try.func83 195 fun K hK => ?_
 refine .q ?_
 refine .sq fun K2 hK2 => ?_
 refine .region ?_
 refine .k 1 ?_
 refine AOPS.old fun hold1 => ?_
 refine .a (near_ac (-6) (4) (by omega) (by omega) (by omega) l p id _ _ dl hl hp (by simp (disch := omega) [hH]) hold1) hb106 ?_
 rintro _ _ nx2 ⟨⟨x, rfl, x0, x1⟩, ⟨p2, hp2, rfl⟩, hnx2⟩
 try simp only [] at hnx2
 clear hold1
 refine .e ?_
 refine hK2 _ ?_
 refine .sq fun K3 hK3 => ?_
 refine .region ?_
 refine .k 1 ?_
 refine AOPS.old fun hold1 => ?_
 refine .a (near_ac (-6) (4) (by omega) (by omega) (by omega) l p2 id _ _ dl hl hp2 (by simp (disch := omega) [hH]) hold1) hb106 ?_
 rintro _ _ nx3 ⟨⟨y, rfl, y0, y1⟩, ⟨p3, hp3, rfl⟩, hnx3⟩
 try simp only [] at hnx3
 clear hold1
 refine .e ?_
 refine hK3 _ ?_
 refine .sq fun K4 hK4 => ?_
 refine .region ?_
 refine .k 1 ?_
 refine AOPS.old fun hold1 => ?_
 refine .a (near_ac (0) (6) (by omega) (by omega) (by omega) l p3 id _ _ dl hl hp3 (by simp (disch := omega) [hH]) hold1) hb106 ?_
 rintro _ _ nx4 ⟨⟨a, rfl, a0, a1⟩, ⟨p4, hp4, rfl⟩, hnx4⟩
 try simp only [] at hnx4
 clear hold1
 refine .e ?_
 refine hK4 _ ?_
 refine .sq fun K5 hK5 => ?_
 refine .region ?_
 refine .k 1 ?_
 refine AOPS.old fun hold1 => ?_
 refine .a (near_ac (0) (6) (by omega) (by omega) (by omega) l p4 id _ _ dl hl hp4 (by simp (disch := omega) [hH]) hold1) hb106 ?_
 rintro _ _ nx5 ⟨⟨b, rfl, b0, b1⟩, ⟨p5, hp5, rfl⟩, hnx5⟩
 try simp only [] at hnx5
 clear hold1
 refine .e ?_
 refine hK5 _ ?_
 refine .q ?_
 refine .sq fun K7 hK7 => ?_
 have J7 : ∀ s : St, (∃ q : Nat, ∃ i2 : Nat, ∃ S : List Sp, ∃ n : Nat, (q ≤ l.length) ∧ (S.length = n) ∧ (3 ≤ n) ∧ (n ≤ 6) ∧ (∀ p ∈ S, Sp.ok p) ∧ (nx < i2) ∧ (hrestr (fun i => decide (i < nx)) s.heap = hupd H0 id (some (2, [[Wd .u8 l, .int .i64 (q : Int)]]))) ∧ s.env 0 = .ptr id 0 0 ∧ s.env 2 = .ptr nx 0 0 ∧ s.env 7 = .osl i2 0 n ∧ s.heap id = some (2, [[Wd .u8 l, .int .i64 (q : Int)]]) ∧ id < s.nx ∧ s.heap nx = some (1, [[.nsl]]) ∧ nx < s.nx ∧ s.heap i2 = some (2, S.map Sp.cells) ∧ i2 < s.nx ∧ s.nt = 195) → K7 s := by
  rintro ⟨e, H, mm, nt⟩ ⟨q, i2, S, n, hq, hSl, hn3, hn6, hSo, hi2, hrs, g0, g2, g7, Hr, xr, Hz, xz, Ho, xo, rfl⟩
  simp only [] at g0 g2 g7 Hr xr Hz xz Ho xo
  simp only [] at hrs
  refine hK7 _ ?_
  refine .sq fun K8 hK8 => ?_
  have J8 : ∀ s : St, (∃ q : Nat, ∃ i2 : Nat, ∃ S : List Sp, ∃ n : Nat, (q ≤ l.length) ∧ (S.length = n) ∧ (3 ≤ n) ∧ (n ≤ 6) ∧ (∀ p ∈ S, Sp.ok p) ∧ (nx < i2) ∧ (hrestr (fun i => decide (i < nx)) s.heap = hupd H0 id (some (2, [[Wd .u8 l, .int .i64 (q : Int)]]))) ∧ s.env 0 = .ptr id 0 0 ∧ s.env 2 = .ptr nx 0 0 ∧ s.env 7 = .osl i2 0 n ∧ s.heap id = some (2, [[Wd .u8 l, .int .i64 (q : Int)]]) ∧ id < s.nx ∧ s.heap nx = some (1, [[.nsl]]) ∧ nx < s.nx ∧ s.heap i2 = some (2, S.map Sp.cells) ∧ i2 < s.nx ∧ s.nt = 195) → K8 s := by
   rintro ⟨e, H, mm, nt⟩ ⟨q, i2, S, n, hq, hSl, hn3, hn6, hSo, hi2, hrs, g0, g2, g7, Hr, xr, Hz, xz, Ho, xo, rfl⟩
   simp only [] at g0 g2 g7 Hr xr Hz xz Ho xo
   simp only [] at hrs
   refine hK8 _ ?_
   refine .sq fun K9 hK9 => ?_
   have J9 : ∀ s : St, (∃ q : Nat, ∃ i2 : Nat, ∃ S : List Sp, ∃ n : Nat, (q ≤ l.length) ∧ (S.length = n) ∧ (3 ≤ n) ∧ (n ≤ 6) ∧ (∀ p ∈ S, Sp.ok p) ∧ (nx < i2) ∧ (hrestr (fun i => decide (i < nx)) s.heap = hupd H0 id (some (2, [[Wd .u8 l, .int .i64 (q : Int)]]))) ∧ s.env 0 = .ptr id 0 0 ∧ s.env 2 = .ptr nx 0 0 ∧ s.env 7 = .osl i2 0 n ∧ s.heap id = some (2, [[Wd .u8 l, .int .i64 (q : Int)]]) ∧ id < s.nx ∧ s.heap nx = some (1, [[.nsl]]) ∧ nx < s.nx ∧ s.heap i2 = some (2, S.map Sp.cells) ∧ i2 < s.nx ∧ s.nt = 195) → K9 s := by
    rintro ⟨e, H, mm, nt⟩ ⟨q, i2, S, n, hq, hSl, hn3, hn6, hSo, hi2, hrs, g0, g2, g7, Hr, xr, Hz, xz, Ho, xo, rfl⟩
    simp only [] at g0 g2 g7 Hr xr Hz xz Ho xo
    simp only [] at hrs
    refine hK9 _ ?_
    refine .sq fun K10 hK10 => ?_
    refine .sq fun K11 hK11 => ?_
    refine .region ?_
    refine .k 1 ?_ (by simp (disch := first|omega|(simp only[ln];omega)) [List.take_succ_cons, List.take_zero, g0, Hr]; rfl)
    refine AOPS.old fun hold1 => ?_
    refine .a (once_ac 40 (by omega) (by omega) l q id _ _ dl hl hq (by simp (disch := omega) [Hr]) hold1) hb102 ?_ (ha := by simp (disch := first|omega|(simp only[ln];omega)) [idf_Wd', g0, Hr])
    rintro _ _ nx2 ⟨⟨b4, rfl⟩, ⟨q2, hq2, rfl⟩, hnx2⟩
    try simp only [] at hnx2
    clear hold1
    refine .nil ?_
    refine hK11 _ ?_
    refine .c (t := b4) (fun h189 => ?_) (fun h189 => ?_)
    ·try simp only[dc]at h189
     have htk : List.take n (List.map Sp.cells S) = List.map Sp.cells S := List.take_of_length_le (by rw [List.length_map]; omega)
     have hc1 : (n + n) * 16 ≤ 140737488355328 := by omega
     have hc2 : n + n ≤ 9223372036854775807 := by omega
     refine .region ?_
     refine .k 2 ?_ (by simp (disch := first|omega|(simp only[ln];omega)) [List.take_succ_cons, List.take_zero, g7, Ho]; rfl)
     refine AOPS.opapp (by simp (disch := first|omega|(simp only[ln];omega)) [opApp.eq_def, aSrc_isl, aSrc_osl, aSrc_nsl, aSrc_int, wd_app, wd_app2, if_pos, wd_append, wd_take, wd_drop, List.nil_append, g7, Ho, hSl, htk, hc1, hc2, plnS3, List.length_map, src_Wd' (P := Try.prog) elT41]; first | rfl | exact ⟨rfl, rfl⟩ | exact ⟨rfl, rfl, rfl⟩) (by simp) (by simp) ?_
     simp only [puts_some, hdrop]
     refine .e ?_ (by simp (disch := first|omega|(simp only[ln];omega)) [g7, Ho]; rfl)
     refine hK10 _ ?_
     refine .q ?_ (by simp (disch := first|omega|(simp only[ln];omega)) [g2, Hz]; rfl)
     refine .ret ?_
     exact hK _ _ _ _ _ trivial ((Fin.mk (r := .agg [.osl nx2 0 (S.length + S.length)]) (by simp (disch := omega) [aRes, aResL, aRes1, g2])).restr (fun i => decide (i < nx) || decide (i = nx2))) (⟨S ++ S, nx2, q2, by rw [List.length_append], fun p hp => (List.mem_append.1 hp).elim (hSo p) (hSo p), by simp; omega, by simp; omega, hq2, by rw [List.map_append]; exact hrestr_or (by simp (disch := first | omega | (simp; done) | (simp; omega)) [hrestr_in, hrestr_out, hrs, hupd_same]) (by simp (disch := omega) [Ho]) (by omega), by first | omega | (simp; omega) | (simp; done), by first | omega | (simp; omega) | (simp; done)⟩)
    ·try simp only[dc]at h189
     refine .skip ?_
     refine hK10 _ ?_
     refine .q ?_ (by simp (disch := first|omega|(simp only[ln];omega)) [g2, g7, Hz]; rfl)
     refine .ret ?_
     exact hK _ _ _ _ _ trivial ((Fin.mk (r := .agg [.osl i2 0 n]) (by simp (disch := omega) [aRes, aResL, aRes1, g2])).restr (fun i => decide (i < nx) || decide (i = i2))) (⟨S, i2, q2, by rw [hSl], hSo, by omega, by omega, hq2, hrestr_or (by simp (disch := first | omega | (simp; done) | (simp; omega)) [hrestr_in, hrestr_out, hrs, hupd_same]) (by simp (disch := omega) [Ho]) (by omega), by first | omega | (simp; omega) | (simp; done), by first | omega | (simp; omega) | (simp; done)⟩)
   refine .sq fun K14 hK14 => ?_
   refine .region ?_
   refine .k 1 ?_ (by simp (disch := first|omega|(simp only[ln];omega)) [List.take_succ_cons, List.take_zero, g0, Hr]; rfl)
   refine AOPS.old fun hold1 => ?_
   refine .a (once_ac 40 (by omega) (by omega) l q id _ _ dl hl hq (by simp (disch := omega) [Hr]) hold1) hb102 ?_ (ha := by simp (disch := first|omega|(simp only[ln];omega)) [idf_Wd', g0, Hr])
   rintro _ _ nx2 ⟨⟨b4, rfl⟩, ⟨q2, hq2, rfl⟩, hnx2⟩
   try simp only [] at hnx2
   clear hold1
   refine .nil ?_
   refine hK14 _ ?_
   refine .c (t := b4) (fun h178 => ?_) (fun h178 => ?_)
   ·try simp only[dc]at h178
    refine .region ?_
    refine .k 4 ?_ (by simp (disch := first|omega|(simp only[ln];omega)) [List.take_succ_cons, List.take_zero, if_pos, g0, g7, Ho, Hr]; rfl)
    refine AOPS.old fun hold4 => ?_
    refine .a (below_ac (n : Int) (by omega) (by omega) l q2 id _ _ dl hl hq2 (by simp (disch := omega) [Hr]) hold4) hb63 ?_ (ha := by simp (disch := first|omega|(simp only[ln];omega)) [idf_Wd', if_pos, g0, g7, Ho, Hr])
    rintro _ _ nx3 ⟨⟨k, rfl, k0, k1⟩, ⟨q3, hq3, rfl⟩, hnx3⟩
    try simp only [] at hnx3
    clear hold4
    obtain ⟨K, rfl⟩ := Int.eq_ofNat_of_zero_le k0
    have hK : K < S.length := by omega
    have hat := rg_at hK
    have hgs : S[K] = gs S K := by have := gs_get hK; rw [List.getElem?_eq_getElem hK] at this; simpa using this
    refine .k 1 ?_ (by simp (disch := first|omega|(simp only[ln];omega)) [List.take_succ_cons, List.take_zero, if_pos, g0, g7, Ho, Hr]; rfl)
    refine AOPS.old fun hold6 => ?_
    refine .a (off_ac l q3 id _ _ dl hl hq3 (by simp (disch := omega) [Hr]) hold6) hb131 ?_ (ha := by simp (disch := first|omega|(simp only[ln];omega)) [idf_Wd', if_pos, g0, g7, Ho, Hr])
    rintro _ _ nx4 ⟨⟨v, rfl, vi⟩, ⟨q4, hq4, rfl⟩, hnx4⟩
    try simp only [] at hnx4
    clear hold6
    refine .e ?_ (by simp (disch := first|omega|(simp only[ln];omega)) [if_pos, g0, g7, Ho, Hr]; rfl)
    refine J9 _ ?_
    refine ⟨q4, i2, S.set K ⟨v, (gs S K).y⟩, n, hq4, by simp [hSl], hn3, hn6, ok_set hSo ⟨vi, (gs_ok hSo _).2⟩, hi2, by simp (disch := first | omega | (simp; done) | (simp; omega)) [hrestr_in, hrestr_out, hrs, hupd_same], ?_, ?_, ?_, ?_, ?_, ?_, ?_, ?_, ?_, rfl⟩ <;> first|(simp (disch := omega) [g0, g2, g7, Hr, Hz, Ho, List.map_set, Sp.cells, hgs];done)|omega|(simp;done)|(simp;omega)
   ·try simp only[dc]at h178
    refine .skip ?_
    refine J9 _ ?_
    refine ⟨q2, i2, S, n, hq2, hSl, hn3, hn6, hSo, hi2, by simp (disch := first | omega | (simp; done) | (simp; omega)) [hrestr_in, hrestr_out, hrs, hupd_same], ?_, ?_, ?_, ?_, ?_, ?_, ?_, ?_, ?_, rfl⟩ <;> first|(simp (disch := omega) [g0, g2, g7, Hr, Hz, Ho];done)|omega|(simp;done)|(simp;omega)
  refine .sq fun K15 hK15 => ?_
  refine .region ?_
  refine .k 1 ?_ (by simp (disch := first|omega|(simp only[ln];omega)) [List.take_succ_cons, List.take_zero, g0, Hr]; rfl)
  refine AOPS.old fun hold1 => ?_
  refine .a (once_ac 6 (by omega) (by omega) l q id _ _ dl hl hq (by simp (disch := omega) [Hr]) hold1) hb102 ?_ (ha := by simp (disch := first|omega|(simp only[ln];omega)) [idf_Wd', g0, Hr])
  rintro _ _ nx2 ⟨⟨b6, rfl⟩, ⟨q2, hq2, rfl⟩, hnx2⟩
  try simp only [] at hnx2
  clear hold1
  refine .nil ?_
  refine hK15 _ ?_
  refine .c (t := b6) (fun h146 => ?_) (fun h146 => ?_)
  ·try simp only[dc]at h146
   refine .q ?_
   refine .block ?_
   
   refine .loop (fun N s => ∃ i : Nat, ∃ S : List Sp, N = (n / 2) - i ∧ i ≤ (n / 2) ∧ (S.length = n) ∧ (∀ p ∈ S, Sp.ok p) ∧ (hrestr (fun i => decide (i < nx)) s.heap = hupd H0 id (some (2, [[Wd .u8 l, .int .i64 (q2 : Int)]]))) ∧ s.env 0 = .ptr id 0 0 ∧ s.env 2 = .ptr nx 0 0 ∧ s.env 7 = .osl i2 0 n ∧ s.env 8 = .int .i64 (i : Int) ∧ s.heap id = some (2, [[Wd .u8 l, .int .i64 (q2 : Int)]]) ∧ id < s.nx ∧ s.heap nx = some (1, [[.nsl]]) ∧ nx < s.nx ∧ s.heap i2 = some (2, S.map Sp.cells) ∧ i2 < s.nx ∧ s.nt = 195) ((n / 2)) (by refine ⟨0, S, by omega, by omega, hSl, hSo, by simp (disch := first | omega | (simp; done) | (simp; omega)) [hrestr_in, hrestr_out, hrs, hupd_same], ?_, ?_, ?_, ?_, ?_, ?_, ?_, ?_, ?_, ?_, rfl⟩ <;> first|(simp (disch := omega) [g0, g2, g7, Hr, Hz, Ho];done)|omega|(simp;done)|(simp;omega)) ?_
   rintro N ⟨e, H, mm, nt⟩ ⟨i, S, rfl, hi, hSl, hSo, hrs, g0, g2, g7, g8, Hr, xr, Hz, xz, Ho, xo, rfl⟩
   simp only [] at g0 g2 g7 g8 Hr xr Hz xz Ho xo
   simp only [] at hrs
   refine .sq fun K17 hK17 => ?_
   refine .q ?_ (by simp (disch := first|omega|(simp only[ln];omega)) [g7, g8, Ho]; rfl)
   refine .c (t := decide ((i : Int) < Int.tdiv (n : Int) 2)) (fun h151 => ?_) (fun h151 => ?_)
   ·try simp only[dc]at h151
    rw [Int.tdiv_eq_ediv_of_nonneg (by omega)] at h151
    have hi' : i < n / 2 := by omega
    obtain ⟨j, hj⟩ : ∃ j : Nat, j = n - 1 - i := ⟨_, rfl⟩
    have hji : (n : Int) - 1 - i = j := by omega
    have hil : i < S.length := by omega
    have hjl : j < S.length := by omega
    have hat := rg_at hil
    have hat2 := rg_at hjl
    have hij : i ≠ j := by omega
    have hjn : j < n := by omega
    have hin : i < n := by omega
    refine .skip ?_
    refine hK17 _ ?_
    refine .sq fun K19 hK19 => ?_
    refine .block ?_
    refine .q ?_ (by simp (disch := first|omega|(simp only[ln];omega)) [if_pos, g7, g8, Ho, hat, hin, List.length_map]; rfl)
    refine .q ?_ (by simp (disch := first|omega|(simp only[ln];omega)) [if_pos, g7, g8, Ho, hat, hat2, hji, hin, hjn, hSl, List.length_map]; rfl)
    refine .r ?_ (by simp (disch := first|omega|(simp only[ln];omega)) [if_pos, g7, g8, Ho, hat, hat2, hji, hin, hjn, hSl, List.length_map]; rfl)
    refine hK19 _ ?_
    refine .r ?_ (by simp (disch := first|omega|(simp only[ln];omega)) [g8]; rfl)
    refine ⟨(n / 2) - (i + 1), by omega, i + 1, ((S.set i (gs S j)).set j (gs S i)), rfl, by omega, by simp [hSl], ok_set (ok_set hSo (gs_ok hSo _)) (gs_ok hSo _), by simp (disch := first | omega | (simp; done) | (simp; omega)) [hrestr_in, hrestr_out, hrs, hupd_same], ?_, ?_, ?_, ?_, ?_, ?_, ?_, ?_, ?_, ?_, rfl⟩ <;> first|(simp (disch := omega) [g0, g2, g7, g8, Hr, Hz, Ho, List.map_set, Sp.cells];done)|omega|(simp;done)|(simp;omega)
   ·try simp only[dc]at h151
    refine .exit ?_
    refine J8 _ ?_
    refine ⟨q2, i2, S, n, hq2, hSl, hn3, hn6, hSo, hi2, by simp (disch := first | omega | (simp; done) | (simp; omega)) [hrestr_in, hrestr_out, hrs, hupd_same], ?_, ?_, ?_, ?_, ?_, ?_, ?_, ?_, ?_, rfl⟩ <;> first|(simp (disch := omega) [g0, g2, g7, Hr, Hz, Ho];done)|omega|(simp;done)|(simp;omega)
  ·try simp only[dc]at h146
   refine .skip ?_
   refine J8 _ ?_
   refine ⟨q2, i2, S, n, hq2, hSl, hn3, hn6, hSo, hi2, by simp (disch := first | omega | (simp; done) | (simp; omega)) [hrestr_in, hrestr_out, hrs, hupd_same], ?_, ?_, ?_, ?_, ?_, ?_, ?_, ?_, ?_, rfl⟩ <;> first|(simp (disch := omega) [g0, g2, g7, Hr, Hz, Ho];done)|omega|(simp;done)|(simp;omega)
 refine .sq fun K22 hK22 => ?_
 refine .region ?_
 refine .k 1 ?_
 refine AOPS.old fun hold1 => ?_
 refine .a (below_ac 8 (by omega) (by omega) l p5 id _ _ dl hl hp5 (by simp (disch := omega) [hH]) hold1) hb63 ?_
 rintro _ _ nx6 ⟨⟨k8, rfl, k80, k81⟩, ⟨p6, hp6, rfl⟩, hnx6⟩
 try simp only [] at hnx6
 clear hold1
 refine .nil ?_
 refine hK22 _ ?_
 refine .block ?_
 refine .q ?_
 refine .c (t := k8 == 0) (fun h43 => ?_) (fun h43 => ?_)
 ·try simp only[dc]at h43
  refine .region ?_
  refine .k 1 ?_
  refine AOPS.old fun hold1 => ?_
  refine .a (spot_ac l p6 id _ _ dl hl hp6 (by simp (disch := omega) [hH]) hold1) hb84 ?_
  rintro _ _ nx7 ⟨⟨ax, ay, rfl, ax0, ax1, ay0, ay1⟩, ⟨p7, hp7, rfl⟩, hnx7⟩
  try simp only [] at hnx7
  clear hold1
  refine .k 1 ?_
  refine AOPS.old fun hold3 => ?_
  refine .a (spot_ac l p7 id _ _ dl hl hp7 (by simp (disch := omega) [hH]) hold3) hb84 ?_
  rintro _ _ nx8 ⟨⟨cx, cy, rfl, cx0, cx1, cy0, cy1⟩, ⟨p8, hp8, rfl⟩, hnx8⟩
  try simp only [] at hnx8
  clear hold3
  refine .k 1 ?_
  refine AOPS.old fun hold5 => ?_
  refine .a (spot_ac l p8 id _ _ dl hl hp8 (by simp (disch := omega) [hH]) hold5) hb84 ?_
  rintro _ _ nx9 ⟨⟨dx, dy, rfl, dx0, dx1, dy0, dy1⟩, ⟨p9, hp9, rfl⟩, hnx9⟩
  try simp only [] at hnx9
  clear hold5
  refine .e ?_
  refine J7 _ ?_
  refine ⟨p9, nx9, [⟨ax, ay⟩, ⟨cx, cy⟩, ⟨dx, dy⟩], 3, hp9, rfl, by omega, by omega, by simp [Sp.ok, I64]; omega, by omega, by simp (disch := first | omega | (simp; done) | (simp; omega)) [hrestr_in, hrestr_out, hrestr_all hd, hupd_same], ?_, ?_, ?_, ?_, ?_, ?_, ?_, ?_, ?_, rfl⟩ <;> first|(simp (disch := omega) [hH, Sp.cells];done)|omega|(simp;done)|(simp;omega)
 ·try simp only[dc]at h43
  refine .q ?_
  refine .c (t := k8 == 1) (fun h52 => ?_) (fun h52 => ?_)
  ·try simp only[dc]at h52
   refine .r ?_
   refine J7 _ ?_
   refine ⟨p6, nx6, [⟨x, y⟩, ⟨x + (1 + a) + 1, y⟩, ⟨x + (1 + a) + 1, y + 1⟩, ⟨x + 1, y + 1⟩, ⟨x + 1, y + (1 + b) + 1⟩, ⟨x, y + (1 + b) + 1⟩], 6, hp6, rfl, by omega, by omega, by simp [Sp.ok, I64]; omega, by omega, by simp (disch := first | omega | (simp; done) | (simp; omega)) [hrestr_in, hrestr_out, hrestr_all hd, hupd_same], ?_, ?_, ?_, ?_, ?_, ?_, ?_, ?_, ?_, rfl⟩ <;> first|(simp (disch := omega) [hH, Sp.cells];done)|omega|(simp;done)|(simp;omega)
  ·try simp only[dc]at h52
   refine .q ?_
   refine .c (t := k8 == 2) (fun h89 => ?_) (fun h89 => ?_)
   ·try simp only[dc]at h89
    refine .region ?_
    refine .k 1 ?_
    refine AOPS.old fun hold1 => ?_
    refine .a (spot_ac l p6 id _ _ dl hl hp6 (by simp (disch := omega) [hH]) hold1) hb84 ?_
    rintro _ _ nx7 ⟨⟨ax, ay, rfl, ax0, ax1, ay0, ay1⟩, ⟨p7, hp7, rfl⟩, hnx7⟩
    try simp only [] at hnx7
    clear hold1
    refine .k 1 ?_
    refine AOPS.old fun hold3 => ?_
    refine .a (spot_ac l p7 id _ _ dl hl hp7 (by simp (disch := omega) [hH]) hold3) hb84 ?_
    rintro _ _ nx8 ⟨⟨cx, cy, rfl, cx0, cx1, cy0, cy1⟩, ⟨p8, hp8, rfl⟩, hnx8⟩
    try simp only [] at hnx8
    clear hold3
    refine .k 1 ?_
    refine AOPS.old fun hold5 => ?_
    refine .a (spot_ac l p8 id _ _ dl hl hp8 (by simp (disch := omega) [hH]) hold5) hb84 ?_
    rintro _ _ nx9 ⟨⟨dx, dy, rfl, dx0, dx1, dy0, dy1⟩, ⟨p9, hp9, rfl⟩, hnx9⟩
    try simp only [] at hnx9
    clear hold5
    refine .k 1 ?_
    refine AOPS.old fun hold7 => ?_
    refine .a (spot_ac l p9 id _ _ dl hl hp9 (by simp (disch := omega) [hH]) hold7) hb84 ?_
    rintro _ _ nxa ⟨⟨fx, fy, rfl, fx0, fx1, fy0, fy1⟩, ⟨pa, hpa, rfl⟩, hnxa⟩
    try simp only [] at hnxa
    clear hold7
    refine .e ?_
    refine J7 _ ?_
    refine ⟨pa, nxa, [⟨ax, ay⟩, ⟨cx, cy⟩, ⟨dx, dy⟩, ⟨fx, fy⟩], 4, hpa, rfl, by omega, by omega, by simp [Sp.ok, I64]; omega, by omega, by simp (disch := first | omega | (simp; done) | (simp; omega)) [hrestr_in, hrestr_out, hrestr_all hd, hupd_same], ?_, ?_, ?_, ?_, ?_, ?_, ?_, ?_, ?_, rfl⟩ <;> first|(simp (disch := omega) [hH, Sp.cells];done)|omega|(simp;done)|(simp;omega)
   ·try simp only[dc]at h89
    refine .q ?_
    refine .c (t := k8 == 3) (fun h100 => ?_) (fun h100 => ?_)
    ·try simp only[dc]at h100
     refine .region ?_
     refine .k 10 ?_
     refine AOPS.old fun hold10 => ?_
     refine .a (near_ac (-2) (8) (by omega) (by omega) (by omega) l p6 id _ _ dl hl hp6 (by simp (disch := omega) [hH]) hold10) hb106 ?_
     rintro _ _ nx7 ⟨⟨k, rfl, k0, k1⟩, ⟨p7, hp7, rfl⟩, hnx7⟩
     try simp only [] at hnx7
     clear hold10
     refine .e ?_
     refine J7 _ ?_
     refine ⟨p7, nx7, [⟨x, y⟩, ⟨x + (1 + a), y⟩, ⟨x + k, y + (1 + b)⟩], 3, hp7, rfl, by omega, by omega, by simp [Sp.ok, I64]; omega, by omega, by simp (disch := first | omega | (simp; done) | (simp; omega)) [hrestr_in, hrestr_out, hrestr_all hd, hupd_same], ?_, ?_, ?_, ?_, ?_, ?_, ?_, ?_, ?_, rfl⟩ <;> first|(simp (disch := omega) [hH, Sp.cells];done)|omega|(simp;done)|(simp;omega)
    ·try simp only[dc]at h100
     refine .q ?_
     refine .c (t := k8 == 4) (fun h119 => ?_) (fun h119 => ?_)
     ·try simp only[dc]at h119
      refine .r ?_
      refine J7 _ ?_
      refine ⟨p6, nx6, [⟨x + 2 * (1 + a), y⟩, ⟨x + (1 + a), y + (1 + b)⟩, ⟨x, y⟩, ⟨x + (1 + a), y - (1 + b)⟩], 4, hp6, rfl, by omega, by omega, by simp [Sp.ok, I64]; omega, by omega, by simp (disch := first | omega | (simp; done) | (simp; omega)) [hrestr_in, hrestr_out, hrestr_all hd, hupd_same], ?_, ?_, ?_, ?_, ?_, ?_, ?_, ?_, ?_, rfl⟩ <;> first|(simp (disch := omega) [hH, Sp.cells];done)|omega|(simp;done)|(simp;omega)
     ·try simp only[dc]at h119
      refine .skip ?_
      refine J7 _ ?_
      refine ⟨p6, nx5, [⟨x, y⟩, ⟨x + (1 + a), y⟩, ⟨x + (1 + a), y + (1 + b)⟩, ⟨x, y + (1 + b)⟩], 4, hp6, rfl, by omega, by omega, by simp [Sp.ok, I64]; omega, by omega, by simp (disch := first | omega | (simp; done) | (simp; omega)) [hrestr_in, hrestr_out, hrestr_all hd, hupd_same], ?_, ?_, ?_, ?_, ?_, ?_, ?_, ?_, ?_, rfl⟩ <;> first|(simp (disch := omega) [hH, Sp.cells];done)|omega|(simp;done)|(simp;omega)

end Go.Proofs.Ytdcajfgeleopiaa
