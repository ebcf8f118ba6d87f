/- Walks: on which side of a ring a point is; FnExactRingIn, walked. -/
import Derived.Test.YtdcajfgeleopiaaGreatG12

namespace Go.Proofs.YtdcajfgeleopiaaGreat
open Go Go.RowKit
set_option linter.unusedSimpArgs false
set_option linter.unusedVariables false
set_option maxRecDepth 100000
attribute [local simp] szT2 byT2 agT2 unT2 zoT2 szT3 byT3 agT3 unT3 zoT3 szT32 byT32 agT32 elT32 unT32 zoT32 szT34 byT34 agT34 flT34 fdT34_0 zoT34 szT36 byT36 agT36 flT36 fdT36_0 fdT36_1 fdT36_2 fdT36_3 zoT36 szT38 byT38 agT38 flT38 fdT38_0 fdT38_1 fdT38_2 zoT38 szT53 byT53 agT53 flT53 fdT53_0 fdT53_1 zoT53 szT55 byT55 agT55 flT55 fdT55_0 fdT55_1 zoT55 szT73 byT73 agT73 flT73 fdT73_0 fdT73_1 zoT73 szT75 byT75 agT75 flT75 fdT75_0 fdT75_1 fdT75_2 zoT75

theorem rgV_start {r : List Sp} {p : Pt} : rgV r p = sdv (sdGo btI cuI p ((rgE r).drop 0) false) := rfl
theorem wi_dec (a b : List Sp) : (rgV b (ptS (gs a 0)) == 1) = wiB a b := by unfold wiB; rw [beqd]

section
attribute [local simp] Sp.av Sp.cells Sg.av Sg.cells Pt.av Pt.cells
set_option maxHeartbeats 4000000 in
theorem sideI_fc (r : List Sp) (hg : spsGood r) (hl : r.length ≤ 1099511627776) (p : Pt) (hp : p.ok) (gp : p.good = true) : FC Tryz.prog 39 [.agg [.isl (r.map Sp.cells)], p.av] (.int .i64 (rgV r p : Int)) := by
 refine .b Tryz.func39 43 (fun nx K hK => ?_) (hi := by simp [idfL, idf, idfLL_iff, Sp.av, Sp.cells, Pt.av, Pt.cells])
 refine .q ?_
 refine .q ?_
 refine .sq fun K3 hK3 => ?_
 refine .q ?_ (by simp (disch := first|omega|(simp only[ln];omega)) [List.length_map]; rfl)
 refine .block ?_
 
 refine .loop (fun N s => ∃ i : Nat, ∃ o : Bool, N = r.length - i ∧ i ≤ r.length ∧ (rgV r p = sdv (sdGo btI cuI p ((rgE r).drop i) o)) ∧ s.env 2 = .ptr nx 0 0 ∧ s.env 3 = .ptr (nx + 1) 0 0 ∧ s.env 5 = .bool o ∧ s.env 11 = .isl (r.map Sp.cells) ∧ s.env 12 = .int .i64 (r.length : Int) ∧ s.env 13 = .int .i64 (i : Int) ∧ s.heap nx = some (1, [[.isl (r.map Sp.cells)]]) ∧ nx < s.nx ∧ s.heap (nx + 1) = some (12, [[.int .u64 p.x.a, .int .u64 p.x.b, .int .u64 p.x.c, .int .u64 p.x.d, .int .u64 p.y.a, .int .u64 p.y.b, .int .u64 p.y.c, .int .u64 p.y.d, .int .u64 p.w.a, .int .u64 p.w.b, .int .u64 p.w.c, .int .u64 p.w.d]]) ∧ (nx + 1) < s.nx ∧ s.nt = 43) (r.length) (by refine ⟨0, false, by omega, by omega, rgV_start, ?_, ?_, ?_, ?_, ?_, ?_, ?_, ?_, ?_, ?_, rfl⟩ <;> first|(simp (disch := omega);done)|omega|(simp;done)|(simp;omega)) ?_
 rintro N ⟨e, H, mm, nt⟩ ⟨i, o, rfl, hi, hv, g2, g3, g5, g11, g12, g13, Hr, xr, Hp, xp, rfl⟩
 simp only [] at g2 g3 g5 g11 g12 g13 Hr xr Hp xp
 refine .q ?_ (by simp (disch := first|omega|(simp only[ln];omega)) [g12, g13]; rfl)
 refine .sq fun K6 hK6 => ?_
 refine .c (fun h14 => ?_) (fun h14 => ?_)
 ·try simp only[dc]at h14
  have hi' : i < r.length := by omega
  have hat := rg_at hi'
  obtain ⟨j, hj⟩ : ∃ j : Nat, j = (i + 1) % r.length := ⟨_, rfl⟩
  have hjl : j < r.length := by rw [hj]; exact nx1_lt hi'
  have htm : Int.tmod ((i : Int) + 1) (r.length : Int) = (j : Int) := by rw [hj]; exact ite_tmod hi'
  have hat2 := rg_at hjl
  have hnj : gs r j = nx1 r i := by rw [hj]; rfl
  have hne : ¬ r = [] := by intro h; rw [h] at hi'; simp at hi'
  have ga := hg _ (gs_mem hi')
  have gb := hg _ (gs_mem hjl)
  have oa : (ptS (gs r i)).ok := pt3_ok _ _ _
  have ob : (ptS (gs r j)).ok := pt3_ok _ _ _
  have qa := ptS_gd ga
  have qb := ptS_gd gb
  have ca := pointOfI_fc (gs r i) ga
  have cb := pointOfI_fc (gs r j) gb
  rw [rgE_drop hi', sdGo, ← hnj] at hv
  generalize ptS (gs r i) = A at *
  generalize ptS (gs r j) = B at *
  refine .skip ?_
  refine hK6 _ ?_
  refine .sq fun K7 hK7 => ?_
  have J7 : ∀ s : St, (∃ o' : Bool, (rgV r p = sdv (sdGo btI cuI p ((rgE r).drop (i + 1)) o')) ∧ s.env 2 = .ptr nx 0 0 ∧ s.env 3 = .ptr (nx + 1) 0 0 ∧ s.env 5 = .bool o' ∧ s.env 11 = .isl (r.map Sp.cells) ∧ s.env 12 = .int .i64 (r.length : Int) ∧ s.env 13 = .int .i64 (i : Int) ∧ s.heap nx = some (1, [[.isl (r.map Sp.cells)]]) ∧ nx < s.nx ∧ s.heap (nx + 1) = some (12, [[.int .u64 p.x.a, .int .u64 p.x.b, .int .u64 p.x.c, .int .u64 p.x.d, .int .u64 p.y.a, .int .u64 p.y.b, .int .u64 p.y.c, .int .u64 p.y.d, .int .u64 p.w.a, .int .u64 p.w.b, .int .u64 p.w.c, .int .u64 p.w.d]]) ∧ (nx + 1) < s.nx ∧ s.nt = 43) → K7 s := by
   clear hv
   rintro ⟨e, H, mm, nt⟩ ⟨o', hv', g2j, g3j, g5j, g11j, g12j, g13j, Hrj, xrj, Hpj, xpj, rfl⟩
   simp only [] at g2j g3j g5j g11j g12j g13j Hrj xrj Hpj xpj
   refine hK7 _ ?_
   refine .r ?_ (by simp (disch := first|omega|(simp only[ln];omega)) [g2j, g3j, g5j, g11j, g12j, g13j, Hrj, Hpj]; rfl)
   refine ⟨r.length - (i + 1), by omega, i + 1, o', rfl, by omega, hv', ?_, ?_, ?_, ?_, ?_, ?_, ?_, ?_, ?_, ?_, rfl⟩ <;> first|(simp (disch := omega) [g2j, g3j, g5j, g11j, g12j, g13j, Hrj, Hpj];done)|omega|(simp;done)|(simp;omega)
  refine .block ?_
  refine .q ?_ (by simp (disch := first|omega|(simp only[ln];omega)) [if_pos, g11, g13, hat, List.length_map]; rfl)
  refine .sq fun K9 hK9 => ?_
  refine .old fun hold => ?_
  refine .d 15 ?_
  refine .k 1 (fun fs10 hfs10 => ?_) (by simp (disch := first|omega|(simp only[ln];omega)) [runDf.eq_def, runF1, runF2, stepF.eq_def, updo.eq_def, hupo.eq_def, opSto1.eq_def, List.take_succ_cons, List.take_zero, if_pos, g2, g13, Hr, hat, hat2, htm, hne, List.length_map]; rfl)
  refine .f ca hb87 ?_ (ha := by simp (disch := first|omega|(simp only[ln];omega)) [idf_Wd', if_pos, g2, g13, Hr, hat, hat2, htm, hne, List.length_map])
  refine DP.runF1q (by simp (disch := first|omega|(simp only[ln];omega)) [runDf.eq_def, runF1, runF2, stepF.eq_def, updo.eq_def, hupo.eq_def, opSto1.eq_def, if_pos, g2, g13, Hr, hat, hat2, htm, hne, List.length_map]; rfl) fun fq11 hfq11 => ?_
  simp [qids, asksB, Op.operands, topId] at hfq11
  simp only [updo]
  refine DP.runF1q (by simp (disch := first|omega|(simp only[ln];omega)) [runDf.eq_def, runF1, runF2, stepF.eq_def, updo.eq_def, hupo.eq_def, opSto1.eq_def, if_pos, g2, g13, Hr, hat, hat2, htm, hne, List.length_map]; rfl) fun fq12 hfq12 => ?_
  simp [qids, asksB, Op.operands, topId] at hfq12
  simp only [updo]
  refine DP.runF1q (by simp (disch := first|omega|(simp only[ln];omega)) [runDf.eq_def, runF1, runF2, stepF.eq_def, updo.eq_def, hupo.eq_def, opSto1.eq_def, if_pos, g2, g13, Hr, hat, hat2, htm, hne, List.length_map]; rfl) fun fq13 hfq13 => ?_
  simp [qids, asksB, Op.operands, topId] at hfq13
  simp only [updo]
  refine DP.runF1q (by simp (disch := first|omega|(simp only[ln];omega)) [runDf.eq_def, runF1, runF2, stepF.eq_def, updo.eq_def, hupo.eq_def, opSto1.eq_def, if_pos, g2, g13, Hr, hat, hat2, htm, hne, List.length_map]; rfl) fun fq14 hfq14 => ?_
  simp [qids, asksB, Op.operands, topId] at hfq14
  simp only [updo]
  refine DP.runF1q (by simp (disch := first|omega|(simp only[ln];omega)) [runDf.eq_def, runF1, runF2, stepF.eq_def, updo.eq_def, hupo.eq_def, opSto1.eq_def, if_pos, g2, g13, Hr, hat, hat2, htm, hne, List.length_map]; rfl) fun fq15 hfq15 => ?_
  simp [qids, asksB, Op.operands, topId] at hfq15
  simp only [updo]
  refine DP.runF1q (by simp (disch := first|omega|(simp only[ln];omega)) [runDf.eq_def, runF1, runF2, stepF.eq_def, updo.eq_def, hupo.eq_def, opSto1.eq_def, if_pos, g2, g13, Hr, hat, hat2, htm, hne, List.length_map]; rfl) fun fq16 hfq16 => ?_
  simp [qids, asksB, Op.operands, topId] at hfq16
  simp only [updo]
  refine DP.runF1q (by simp (disch := first|omega|(simp only[ln];omega)) [runDf.eq_def, runF1, runF2, stepF.eq_def, updo.eq_def, hupo.eq_def, opSto1.eq_def, if_pos, g2, g13, Hr, hat, hat2, htm, hne, List.length_map]; rfl) fun fq17 hfq17 => ?_
  simp [qids, asksB, Op.operands, topId] at hfq17
  simp only [updo]
  refine DP.runF1q (by simp (disch := first|omega|(simp only[ln];omega)) [runDf.eq_def, runF1, runF2, stepF.eq_def, updo.eq_def, hupo.eq_def, opSto1.eq_def, if_pos, g2, g13, Hr, hat, hat2, htm, hne, List.length_map]; rfl) fun fq18 hfq18 => ?_
  simp [qids, asksB, Op.operands, topId] at hfq18
  simp only [updo]
  refine DP.runF1q (by simp (disch := first|omega|(simp only[ln];omega)) [runDf.eq_def, runF1, runF2, stepF.eq_def, updo.eq_def, hupo.eq_def, opSto1.eq_def, if_pos, g2, g13, Hr, hat, hat2, htm, hne, List.length_map]; rfl) fun fq19 hfq19 => ?_
  simp [qids, asksB, Op.operands, topId] at hfq19
  simp only [updo]
  refine DP.runF1q (by simp (disch := first|omega|(simp only[ln];omega)) [runDf.eq_def, runF1, runF2, stepF.eq_def, updo.eq_def, hupo.eq_def, opSto1.eq_def, if_pos, g2, g13, Hr, hat, hat2, htm, hne, List.length_map]; rfl) fun fq20 hfq20 => ?_
  simp [qids, asksB, Op.operands, topId] at hfq20
  simp only [updo]
  refine .f cb hb87 ?_ (ha := by simp (disch := first|omega|(simp only[ln];omega)) [idf_Wd', if_pos, g2, g13, Hr, hat, hat2, htm, hne, List.length_map])
  refine .k 2 (fun fs21 hfs21 => ?_) (by simp (disch := first|omega|(simp only[ln];omega)) [runDf.eq_def, runF1, runF2, stepF.eq_def, updo.eq_def, hupo.eq_def, opSto1.eq_def, List.take_succ_cons, List.take_zero, if_pos, g2, g13, Hr, hat, hat2, htm, hne, List.length_map]; rfl)
  refine DQ.sto1 (m := 15) [2, 3, 4, 5, 6, 7, 8, 9, 10, 11] _ (by simp (disch := first|omega|(simp only[ln];omega)) [runDf.eq_def, runF1, runF2, stepF.eq_def, updo.eq_def, hupo.eq_def, opSto1.eq_def, if_pos, g2, g13, Hr, hat, hat2, htm, hne, List.length_map]; rfl) rfl (by simp only[ln, hfs10, hfs21];omega) (by kernel_rfl) (by intro k f hk hex; simp only [List.mem_cons, List.not_mem_nil, or_false] at hex; rcases hex with rfl | rfl | rfl | rfl | rfl | rfl | rfl | rfl | rfl | rfl <;> (simp [List.getElem?_append, hfs10, hfs21] at hk; subst hk; refine ⟨?_, by first | omega | (simp; done) | (simp; omega)⟩; simp [qids, asksB, Op.operands, Call.operands, topId, numS, numI, Wd, hfq11, hfq12, hfq13, hfq14, hfq15, hfq16, hfq17, hfq18, hfq19, hfq20, g2, g13, g11]; try omega)) ?_
  try simp only []
  refine DQ.sto1 (m := 15) [] _ (by simp (disch := first|omega|(simp only[ln];omega)) [runDf.eq_def, runF1, runF2, stepF.eq_def, updo.eq_def, hupo.eq_def, opSto1.eq_def, if_pos, g2, g13, Hr, hat, hat2, htm, hne, List.length_map]; rfl) rfl (by simp only[ln, hfs10, hfs21];omega) (by kernel_rfl) (by intro k f hk hex; simp only [List.not_mem_nil] at hex) ?_
  try simp only []
  refine hK9 _ ?_
  refine .sq fun K22 hK22 => ?_
  refine .sq fun K23 hK23 => ?_
  refine .region ?_
  refine .kf 3 (between_fc A B p oa ob hp qa qb gp) hb88 ?_ (by simp (disch := first|omega|(simp only[ln];omega)) [List.take_succ_cons, List.take_zero, g3, Hp]; rfl) (ha := by simp (disch := first|omega|(simp only[ln];omega)) [idf_Wd', g3, Hp])
  refine .nil ?_
  refine hK23 _ ?_
  refine .c (t := btI A B p) (fun h34 => ?_) (fun h34 => ?_)
  ·try simp only[dc]at h34
   rw [if_pos h34] at hv
   refine .q ?_
   refine .ret ?_
   exact hK _ _ _ _ trivial ((Fin.m).cast (by rw [hv]; rfl))
  ·try simp only[dc]at h34
   rw [if_neg (by rw [h34]; simp)] at hv
   refine .skip ?_
   refine hK22 _ ?_
   refine .sq fun K25 hK25 => ?_
   refine .region ?_
   refine .kf 3 (crosses_fc A B p oa ob hp) hb89 ?_ (by simp (disch := first|omega|(simp only[ln];omega)) [List.take_succ_cons, List.take_zero, g3, Hp]; rfl) (ha := by simp (disch := first|omega|(simp only[ln];omega)) [idf_Wd', g3, Hp])
   refine .nil ?_
   refine hK25 _ ?_
   refine .c (t := cuI A B p) (fun h38 => ?_) (fun h38 => ?_)
   ·try simp only[dc]at h38
    refine .r ?_ (by simp (disch := first|omega|(simp only[ln];omega)) [g5]; rfl)
    refine J7 _ ?_
    refine ⟨!o, by rw [hv, h38]; cases o <;> rfl, ?_, ?_, ?_, ?_, ?_, ?_, ?_, ?_, ?_, ?_, rfl⟩ <;> first|(simp (disch := omega) [g2, g3, g5, g11, g12, g13, Hr, Hp];done)|omega|(simp;done)|(simp;omega)
   ·try simp only[dc]at h38
    refine .skip ?_
    refine J7 _ ?_
    refine ⟨o, by rw [hv, h38]; cases o <;> rfl, ?_, ?_, ?_, ?_, ?_, ?_, ?_, ?_, ?_, ?_, rfl⟩ <;> first|(simp (disch := omega) [g2, g3, g5, g11, g12, g13, Hr, Hp];done)|omega|(simp;done)|(simp;omega)
 ·try simp only[dc]at h14
  have hin : i = r.length := by omega
  rw [rgE_end (by omega), sdGo] at hv
  refine .exit ?_
  refine hK3 _ ?_
  refine .sq fun K26 hK26 => ?_
  refine .q ?_ (by simp (disch := first|omega|(simp only[ln];omega)) [g5]; rfl)
  refine .c (t := o) (fun h42 => ?_) (fun h42 => ?_)
  ·try simp only[dc]at h42
   refine .q ?_
   refine .ret ?_
   exact hK _ _ _ _ trivial ((Fin.m).cast (by rw [hv, h42]; rfl))
  ·try simp only[dc]at h42
   refine .skip ?_
   refine hK26 _ ?_
   refine .q ?_
   refine .ret ?_
   exact hK _ _ _ _ trivial ((Fin.m).cast (by rw [hv, h42]; rfl))
end
section
attribute [local simp] idf_numS cells_numS numS_fold idf_numI cells_numI numI_fold Sp.av Sp.cells Sg.av Sg.cells Pt.av Pt.cells l3A l3C
set_option maxHeartbeats 1000000 in
theorem l4On_fc (a b : Sp) (ga : a.good = true) (gb : b.good = true) (p : Pt) (hp : p.ok) : FC Tryz.prog 79 [.agg [.int .i64 a.x, .int .i64 a.y, .int .i64 b.x, .int .i64 b.y], l3A p.x.v p.y.v p.w.v] (.bool (btS (ptS a) (ptS b) p)) := by
 obtain ⟨a1, a2, a3⟩ := ptS_v ga
 obtain ⟨b1, b2, b3⟩ := ptS_v gb
 have ba := Sp.b ga
 have bb := Sp.b gb
 have sa := l3Spot_fc a.x a.y (by omega) (by omega) (by omega) (by omega)
 have sb := l3Spot_fc b.x b.y (by omega) (by omega) (by omega) (by omega)
 have k := l3Between_fc (ptS a) (ptS b) p (pt3_ok _ _ _) (pt3_ok _ _ _) hp
 rw [a1, a2, a3, b1, b2, b3] at k
 refine .b Tryz.func79 13 (fun nx K hK => ?_) (hi := by simp [idfL, idf, l3A, l3C, idf_Wd'])
 refine .q ?_
 refine .sq fun K2 hK2 => ?_
 refine .d 8 ?_
 refine .k 2 (fun fs3 hfs3 => ?_)
 refine .f sa hb59 ?_
 refine .k 2 (fun fs4 hfs4 => ?_)
 refine .f sb hb59 ?_
 refine .k 1 (fun fs5 hfs5 => ?_)
 refine .f k hb129 ?_
 refine .r 8 (by simp only[ln, hfs3, hfs4, hfs5];omega) ?_
 refine hK2 _ ?_
 refine .ret ?_
 exact hK _ _ _ _ trivial (Fin.m)
set_option maxHeartbeats 4000000 in
theorem l5In_fc (r : List Sp) (hg : spsGood r) (hl : r.length ≤ 1099511627776) (p : Pt) (hp : p.ok) (gp : p.good = true) (hd : ¬ rgDup r) (h3 : 3 ≤ r.length) : FC Tryz.prog 33 [.agg [.isl (r.map Sp.cells)], l3A p.x.v p.y.v p.w.v] (.int .i64 (rgV r p : Int)) := by
 refine .b Tryz.func33 32 (fun nx K hK => ?_) (hi := by simp [idfL, idf, idfLL_iff, Sp.cells, l3A, l3C, idf_Wd'])
 refine .q ?_
 refine .q ?_
 refine .sq fun K3 hK3 => ?_
 refine .q ?_
 refine .block ?_
 
 refine .loop (fun N s => ∃ i : Nat, ∃ o : Bool, N = r.length - i ∧ i ≤ r.length ∧ (rgV r p = sdv (sdGo btI cuI p ((rgE r).drop i) o)) ∧ s.env 2 = .ptr nx 0 0 ∧ s.env 3 = .ptr (nx + 1) 0 0 ∧ s.env 5 = .bool o ∧ s.env 6 = .int .i64 (i : Int) ∧ s.heap nx = some (1, [[.isl (r.map Sp.cells)]]) ∧ nx < s.nx ∧ s.heap (nx + 1) = some (6, [l3C p.x.v p.y.v p.w.v]) ∧ (nx + 1) < s.nx ∧ s.nt = 32) (r.length) (by refine ⟨0, false, by omega, by omega, rgV_start, ?_, ?_, ?_, ?_, ?_, ?_, ?_, ?_, rfl⟩ <;> first|(simp (disch := omega) [l3C];done)|omega|(simp;done)|(simp;omega)) ?_
 rintro N ⟨e, H, mm, nt⟩ ⟨i, o, rfl, hi, hv, g2, g3, g5, g6, Hr, xr, Hp, xp, rfl⟩
 simp only [] at g2 g3 g5 g6 Hr xr Hp xp
 refine .sq fun K5 hK5 => ?_
 refine .q ?_ (by simp (disch := first|omega|(simp only[ln];omega)) [g2, g6, Hr, List.length_map]; rfl)
 refine .c (fun h12 => ?_) (fun h12 => ?_)
 ·try simp only[dc]at h12
  have hi' : i < r.length := by omega
  have ga := hg _ (gs_mem hi')
  have gb := hg _ (gs_mem (nx1_lt hi'))
  have gsd := sd_good (by omega) hg hd hi'
  have sda := good_a gsd
  have sdb := good_b gsd
  obtain ⟨e1, e2⟩ := side_eq (p := p) ga gb hp gp
  have ba := Sp.b sda
  have bb := Sp.b sdb
  have k1 := l4On_fc (sd r i).a (sd r i).b sda sdb p hp
  have k2 := l5Cuts_fc (ptS (sd r i).a) (ptS (sd r i).b) p (pt3_ok _ _ _) (pt3_ok _ _ _) hp
  obtain ⟨a1, a2, a3⟩ := ptS_v sda
  obtain ⟨b1, b2, b3⟩ := ptS_v sdb
  rw [a1, a2, a3, b1, b2, b3] at k2
  have sa := l3Spot_fc (sd r i).a.x (sd r i).a.y (by omega) (by omega) (by omega) (by omega)
  have sb := l3Spot_fc (sd r i).b.x (sd r i).b.y (by omega) (by omega) (by omega) (by omega)
  have ks := l5Side_fc r i hi' hl
  rw [rgE_drop hi', sdGo] at hv
  rw [show btS (ptS (sd r i).a) (ptS (sd r i).b) p = btI (ptS (gs r i)) (ptS (nx1 r i)) p from e1] at k1
  rw [show cuS (ptS (sd r i).a) (ptS (sd r i).b) p = cuI (ptS (gs r i)) (ptS (nx1 r i)) p from e2] at k2
  generalize btI (ptS (gs r i)) (ptS (nx1 r i)) p = bt at *
  generalize cuI (ptS (gs r i)) (ptS (nx1 r i)) p = cu at *
  refine .skip ?_
  refine hK5 _ ?_
  refine .sq fun K7 hK7 => ?_
  have J7 : ∀ s : St, (∃ o' : Bool, (rgV r p = sdv (sdGo btI cuI p ((rgE r).drop (i + 1)) o')) ∧ s.env 2 = .ptr nx 0 0 ∧ s.env 3 = .ptr (nx + 1) 0 0 ∧ s.env 5 = .bool o' ∧ s.env 6 = .int .i64 (i : Int) ∧ s.heap nx = some (1, [[.isl (r.map Sp.cells)]]) ∧ nx < s.nx ∧ s.heap (nx + 1) = some (6, [l3C p.x.v p.y.v p.w.v]) ∧ (nx + 1) < s.nx ∧ s.nt = 32) → K7 s := by
   clear hv
   rintro ⟨e, H, mm, nt⟩ ⟨o', hv', g2j, g3j, g5j, g6j, Hrj, xrj, Hpj, xpj, rfl⟩
   simp only [] at g2j g3j g5j g6j Hrj xrj Hpj xpj
   refine hK7 _ ?_
   refine .r ?_ (by simp (disch := first|omega|(simp only[ln];omega)) [g2j, g3j, g5j, g6j, Hrj, Hpj]; rfl)
   refine ⟨r.length - (i + 1), by omega, i + 1, o', rfl, by omega, hv', ?_, ?_, ?_, ?_, ?_, ?_, ?_, ?_, rfl⟩ <;> first|(simp (disch := omega) [g2j, g3j, g5j, g6j, Hrj, Hpj];done)|omega|(simp;done)|(simp;omega)
  refine .block ?_
  refine .sq fun K8 hK8 => ?_
  refine .region ?_
  refine .kf 2 ks hb78 ?_ (by simp (disch := first|omega|(simp only[ln];omega)) [List.take_succ_cons, List.take_zero, g2, g6, Hr]; rfl) (ha := by simp (disch := first|omega|(simp only[ln];omega)) [idf_Wd', g2, g6, Hr])
  refine .e ?_ (by simp (disch := first|omega|(simp only[ln];omega)) [g2, g6, Hr]; rfl)
  refine hK8 _ ?_
  refine .sq fun K9 hK9 => ?_
  refine .sq fun K10 hK10 => ?_
  refine .region ?_
  refine .kf 2 k1 hb79 ?_ (by simp (disch := first|omega|(simp only[ln];omega)) [List.take_succ_cons, List.take_zero, g3, Hp]; rfl) (ha := by simp (disch := first|omega|(simp only[ln];omega)) [idf_Wd', g3, Hp])
  refine .nil ?_
  refine hK10 _ ?_
  refine .c (t := bt) (fun h20 => ?_) (fun h20 => ?_)
  ·try simp only[dc]at h20
   rw [if_pos h20] at hv
   refine .q ?_
   refine .ret ?_
   exact hK _ _ _ _ trivial ((Fin.m).cast (by rw [hv]; rfl))
  ·try simp only[dc]at h20
   rw [if_neg (by rw [h20]; simp)] at hv
   refine .skip ?_
   refine hK9 _ ?_
   refine .sq fun K12 hK12 => ?_
   refine .d 8 ?_
   refine .k 2 (fun fs13 hfs13 => ?_) (by simp (disch := first|omega|(simp only[ln];omega)) [runDf.eq_def, runF1, runF2, stepF.eq_def, updo.eq_def, hupo.eq_def, opSto1.eq_def, List.take_succ_cons, List.take_zero, g3, Hp]; rfl)
   refine .f sa hb59 ?_ (ha := by simp (disch := first|omega|(simp only[ln];omega)) [idf_Wd', g3, Hp])
   refine .k 2 (fun fs14 hfs14 => ?_) (by simp (disch := first|omega|(simp only[ln];omega)) [runDf.eq_def, runF1, runF2, stepF.eq_def, updo.eq_def, hupo.eq_def, opSto1.eq_def, List.take_succ_cons, List.take_zero, g3, Hp]; rfl)
   refine .f sb hb59 ?_ (ha := by simp (disch := first|omega|(simp only[ln];omega)) [idf_Wd', g3, Hp])
   refine .k 1 (fun fs15 hfs15 => ?_) (by simp (disch := first|omega|(simp only[ln];omega)) [runDf.eq_def, runF1, runF2, stepF.eq_def, updo.eq_def, hupo.eq_def, opSto1.eq_def, List.take_succ_cons, List.take_zero, g3, Hp]; rfl)
   refine .f k2 hb80 ?_ (ha := by simp (disch := first|omega|(simp only[ln];omega)) [idf_Wd', g3, Hp])
   refine .r 8 (by simp only[ln, hfs13, hfs14, hfs15];omega) ?_ (by simp (disch := first|omega|(simp only[ln];omega)) [runDf.eq_def, runF1, runF2, stepF.eq_def, updo.eq_def, hupo.eq_def, opSto1.eq_def, g3, Hp]; rfl)
   refine hK12 _ ?_
   refine .c (t := cu) (fun h28 => ?_) (fun h28 => ?_)
   ·try simp only[dc]at h28
    refine .r ?_ (by simp (disch := first|omega|(simp only[ln];omega)) [g5]; rfl)
    refine J7 _ ?_
    refine ⟨!o, by rw [hv, h28]; cases o <;> rfl, ?_, ?_, ?_, ?_, ?_, ?_, ?_, ?_, rfl⟩ <;> first|(simp (disch := omega) [g2, g3, g5, g6, Hr, Hp];done)|omega|(simp;done)|(simp;omega)
   ·try simp only[dc]at h28
    refine .skip ?_
    refine J7 _ ?_
    refine ⟨o, by rw [hv, h28]; cases o <;> rfl, ?_, ?_, ?_, ?_, ?_, ?_, ?_, ?_, rfl⟩ <;> first|(simp (disch := omega) [g2, g3, g5, g6, Hr, Hp];done)|omega|(simp;done)|(simp;omega)
 ·try simp only[dc]at h12
  have hin : i = r.length := by omega
  rw [rgE_end (by omega), sdGo] at hv
  refine .exit ?_
  refine hK3 _ ?_
  refine .sq fun K16 hK16 => ?_
  refine .q ?_ (by simp (disch := first|omega|(simp only[ln];omega)) [g5]; rfl)
  refine .c (t := o) (fun h31 => ?_) (fun h31 => ?_)
  ·try simp only[dc]at h31
   refine .q ?_
   refine .ret ?_
   exact hK _ _ _ _ trivial ((Fin.m).cast (by rw [hv, h31]; rfl))
  ·try simp only[dc]at h31
   refine .skip ?_
   refine hK16 _ ?_
   refine .q ?_
   refine .ret ?_
   exact hK _ _ _ _ trivial ((Fin.m).cast (by rw [hv, h31]; rfl))
end
section
attribute [local simp] Sp.av Sp.cells Sg.av Sg.cells Pt.av Pt.cells
set_option maxHeartbeats 1000000 in
theorem ringInI_fc (a b : List Sp) (ha : rgF a = 0) (hb : rgF b = 0) : FC Tryz.prog 121 [.agg [.isl (a.map Sp.cells)], .agg [.isl (b.map Sp.cells)]] (.bool (rgI a b)) := by
 obtain ⟨a1, a2, a3, a4, _⟩ := rgF_zero ha
 obtain ⟨b1, b2, b3, b4, _⟩ := rgF_zero hb
 have h0 : 0 < a.length := by omega
 have hat := rg_at h0
 have g0 := a3 _ (gs_mem h0)
 have q0 := ptS_gd g0
 have o0 : (ptS (gs a 0)).ok := pt3_ok _ _ _
 have w := wi_dec a b
 have hne : ¬ a = [] := by intro h; rw [h] at h0; simp at h0
 have c1 := ringsMeetI_fc a b ha hb
 have c2 := pointOfI_fc (gs a 0) g0
 have c3 := sideI_fc b b3 (by omega) (ptS (gs a 0)) o0 q0
 have e : rgI a b = (!rgsM a b && wiB a b) := rfl
 refine .b Tryz.func121 19 (fun nx K hK => ?_) (hi := by simp [idfL, idf, idfLL_iff, Sp.av, Sp.cells, Sg.av, Sg.cells])
 refine .q ?_
 refine .sq fun K2 hK2 => ?_
 cases hm : rgsM a b
 ·rw [hm] at c1
  generalize ptS (gs a 0) = A at *
  refine .d 14 ?_
  refine .k 2 (fun fs3 hfs3 => ?_) (by simp (disch := first|omega|(simp only[ln];omega)) [runDf.eq_def, runF1, runF2, stepF.eq_def, updo.eq_def, hupo.eq_def, opSto1.eq_def, List.take_succ_cons, List.take_zero, if_pos, hm, hat, w, h0, hne, List.length_map]; rfl)
  refine .f c1 hb157 ?_ (ha := by simp (disch := first|omega|(simp only[ln];omega)) [idf_Wd', if_pos, hm, hat, w, h0, hne, List.length_map])
  refine .k 7 (fun fs4 hfs4 => ?_) (by simp (disch := first|omega|(simp only[ln];omega)) [runDf.eq_def, runF1, runF2, stepF.eq_def, updo.eq_def, hupo.eq_def, opSto1.eq_def, List.take_succ_cons, List.take_zero, if_pos, hm, hat, w, h0, hne, List.length_map]; rfl)
  refine .f c2 hb87 ?_ (ha := by simp (disch := first|omega|(simp only[ln];omega)) [idf_Wd', if_pos, hm, hat, w, h0, hne, List.length_map])
  refine .f c3 hb39 ?_ (ha := by simp (disch := first|omega|(simp only[ln];omega)) [idf_Wd', if_pos, hm, hat, w, h0, hne, List.length_map])
  refine .k 2 (fun fs5 hfs5 => ?_) (by simp (disch := first|omega|(simp only[ln];omega)) [runDf.eq_def, runF1, runF2, stepF.eq_def, updo.eq_def, hupo.eq_def, opSto1.eq_def, List.take_succ_cons, List.take_zero, if_pos, hm, hat, w, h0, hne, List.length_map]; rfl)
  refine .r 14 (by simp only[ln, hfs3, hfs4, hfs5];omega) ?_ (by simp (disch := first|omega|(simp only[ln];omega)) [runDf.eq_def, runF1, runF2, stepF.eq_def, updo.eq_def, hupo.eq_def, opSto1.eq_def, if_pos, hm, hat, w, h0, hne, List.length_map]; rfl)
  refine hK2 _ ?_
  refine .ret ?_
  exact hK _ _ _ _ trivial ((Fin.m).cast (by rw [e, hm]; rfl))
 ·rw [hm] at c1
  refine .d 14 ?_
  refine .k 2 (fun fs6 hfs6 => ?_) (by simp (disch := first|omega|(simp only[ln];omega)) [runDf.eq_def, runF1, runF2, stepF.eq_def, updo.eq_def, hupo.eq_def, opSto1.eq_def, List.take_succ_cons, List.take_zero, if_pos, hm, hat]; rfl)
  refine .f c1 hb157 ?_ (ha := by simp (disch := first|omega|(simp only[ln];omega)) [idf_Wd', if_pos, hm, hat])
  refine .k 11 (fun fs7 hfs7 => ?_) (by simp (disch := first|omega|(simp only[ln];omega)) [runDf.eq_def, runF1, runF2, stepF.eq_def, updo.eq_def, hupo.eq_def, opSto1.eq_def, List.take_succ_cons, List.take_zero, if_pos, hm, hat]; rfl)
  refine .r 14 (by simp only[ln, hfs6, hfs7];omega) ?_ (by simp (disch := first|omega|(simp only[ln];omega)) [runDf.eq_def, runF1, runF2, stepF.eq_def, updo.eq_def, hupo.eq_def, opSto1.eq_def, if_pos, hm, hat]; rfl)
  refine hK2 _ ?_
  refine .ret ?_
  exact hK _ _ _ _ trivial ((Fin.m).cast (by rw [e, hm]; rfl))
end
section
attribute [local simp] idf_numS cells_numS numS_fold idf_numI cells_numI numI_fold Sp.av Sp.cells Sg.av Sg.cells Pt.av Pt.cells l3A l3C
set_option maxHeartbeats 1000000 in
theorem l5Within_fc (a b : List Sp) (ha : rgF a = 0) (hb : rgF b = 0) : FC Tryz.prog 119 [.agg [.isl (a.map Sp.cells)], .agg [.isl (b.map Sp.cells)]] (.bool (wiB a b)) := by
 obtain ⟨a1, a2, a3, a4, _⟩ := rgF_zero ha
 obtain ⟨b1, b2, b3, b4, _⟩ := rgF_zero hb
 have h0 : 0 < a.length := by omega
 have hat := rg_at h0
 have g0 := a3 _ (gs_mem h0)
 have q0 := ptS_gd g0
 have o0 : (ptS (gs a 0)).ok := pt3_ok _ _ _
 have w := wi_dec a b
 have hne : ¬ a = [] := by intro h; rw [h] at h0; simp at h0
 obtain ⟨p1, p2, p3⟩ := ptS_v g0
 have bp := Sp.b g0
 have c2 := l3Spot_fc (gs a 0).x (gs a 0).y (by omega) (by omega) (by omega) (by omega)
 have c3 := l5In_fc b b3 (by omega) (ptS (gs a 0)) o0 q0 b4 b1
 rw [p1, p2, p3] at c3
 refine .b Tryz.func119 13 (fun nx K hK => ?_) (hi := by simp [idfL, idf, idfLL_iff, Sp.av, Sp.cells, Sg.av, Sg.cells])
 refine .q ?_
 refine .sq fun K2 hK2 => ?_
 refine .d 8 ?_
 refine .k 5 (fun fs3 hfs3 => ?_) (by simp (disch := first|omega|(simp only[ln];omega)) [runDf.eq_def, runF1, runF2, stepF.eq_def, updo.eq_def, hupo.eq_def, opSto1.eq_def, List.take_succ_cons, List.take_zero, if_pos, hat, w, h0, hne, List.length_map]; rfl)
 refine .f c2 hb59 ?_ (ha := by simp (disch := first|omega|(simp only[ln];omega)) [idf_Wd', if_pos, hat, w, h0, hne, List.length_map])
 refine .f c3 hb33 ?_ (ha := by simp (disch := first|omega|(simp only[ln];omega)) [idf_Wd', if_pos, hat, w, h0, hne, List.length_map])
 refine .k 1 (fun fs4 hfs4 => ?_) (by simp (disch := first|omega|(simp only[ln];omega)) [runDf.eq_def, runF1, runF2, stepF.eq_def, updo.eq_def, hupo.eq_def, opSto1.eq_def, List.take_succ_cons, List.take_zero, if_pos, hat, w, h0, hne, List.length_map]; rfl)
 refine .r 8 (by simp only[ln, hfs3, hfs4];omega) ?_ (by simp (disch := first|omega|(simp only[ln];omega)) [runDf.eq_def, runF1, runF2, stepF.eq_def, updo.eq_def, hupo.eq_def, opSto1.eq_def, if_pos, hat, w, h0, hne, List.length_map]; rfl)
 refine hK2 _ ?_
 refine .ret ?_
 exact hK _ _ _ _ trivial (Fin.m)
end

end Go.Proofs.YtdcajfgeleopiaaGreat

/- Walks: faults of layers; FnExactLayerFault, walked. -/
namespace Go.Proofs.YtdcajfgeleopiaaGreat
open Go Go.RowKit
set_option linter.unusedSimpArgs false
set_option linter.unusedVariables false
set_option maxRecDepth 100000
attribute [local simp] szT2 byT2 agT2 unT2 zoT2 szT3 byT3 agT3 unT3 zoT3 szT32 byT32 agT32 elT32 unT32 zoT32 szT34 byT34 agT34 flT34 fdT34_0 zoT34 szT53 byT53 agT53 flT53 fdT53_0 fdT53_1 zoT53 szT59 byT59 agT59 elT59 unT59 zoT59

theorem hbLF : hasBody Tryz.prog 156 = true := hb156
theorem gr_at {L : List (List Sp)} {i : Nat} (h : i < L.length) : (L.map rgC)[i]? = some [.isl ((gr L i).map Sp.cells)] := by rw [List.getElem?_map, gr_get h]; rfl
theorem lv_rgC (H : Heap) (k : Nat) (L : List (List Sp)) : List.map (List.map (lv H (k + 1))) (L.map rgC) = L.map rgC := by
  rw [List.map_map]; congr 1; funext r; simp [rgC, lv, lv_sp]
theorem lv_rgD (H : Heap) (L : List (List Sp)) : List.map (List.map (lv H 3) ∘ rgC) L = L.map rgC := by
  congr 1; funext r; simp [rgC, lv, lv_sp]
theorem rgC_len (L : List (List Sp)) : (∀ c ∈ L.map rgC, c.length = 1) = True := by
  simp only [eq_iff_iff, iff_true]
  intro c hc
  obtain ⟨p, _, rfl⟩ := List.mem_map.1 hc
  rfl
theorem rgC_lenx (L : List (List Sp)) : (∀ a ∈ L, 1 = (rgC a).length) = True := by
  simp only [eq_iff_iff, iff_true]
  intro c _; rfl
theorem rgC_len' (L : List (List Sp)) : (∀ a ∈ L, (rgC a).length = 1) = True := by
  simp only [eq_iff_iff, iff_true]
  intro c _; rfl

section
attribute [local simp] Sp.av Sp.cells Sg.av Sg.cells
theorem layerFault1_fc (a b : List Sp) (za : rgF a = 0) (zb : rgF b = 0) : FC Tryz.prog 156 [.agg [.isl (b.map Sp.cells)], .ip [.isl (a.map Sp.cells)]] (.bool (rgsM a b)) := by
 refine .b Tryz.func156 7 (fun nx K hK => ?_) (hi := by simp [idfL, idf, idfLL_iff, Sp.av, Sp.cells, Sg.av, Sg.cells])
 refine .q ?_
 refine .sq fun K2 hK2 => ?_
 refine .region ?_
 refine .kf 2 (ringsMeetI_fc a b za zb) hb157 ?_
 refine .e ?_
 refine hK2 _ ?_
 refine .ret ?_
 exact hK _ _ _ _ trivial (Fin.m)
set_option maxHeartbeats 1000000 in
theorem indexLF_fc (a : List Sp) (L : List (List Sp)) (za : rgF a = 0) (zL : ∀ r ∈ L, rgF r = 0) (hl : L.length ≤ 1099511627776) : FC Tryz.prog 174 [.isl (L.map rgC), .fn 156 [.ip [.isl (a.map Sp.cells)]]] (.int .i64 (ixF (rgsM a) L 0 : Int)) := by
 refine .b Tryz.func174 19 (fun nx K hK => ?_) (hi := by simp [idfL, idf, idfLL_iff, rgC, Sp.cells])
 refine .q ?_
 refine .sq fun K2 hK2 => ?_
 refine .q ?_ (by simp (disch := first|omega|(simp only[ln];omega)) [List.length_map]; rfl)
 refine .block ?_
 
 refine .loop (fun N s => ∃ i : Nat, N = L.length - i ∧ i ≤ L.length ∧ (ixF (rgsM a) L 0 = ixF (rgsM a) (L.drop i) i) ∧ s.env 0 = .isl (L.map rgC) ∧ s.env 1 = .fn 156 [.ip [.isl (a.map Sp.cells)]] ∧ s.env 7 = .int .i64 (L.length : Int) ∧ s.env 8 = .int .i64 (i : Int) ∧ s.nt = 19) (L.length) (by refine ⟨0, by omega, by omega, rfl, ?_, ?_, ?_, ?_, rfl⟩ <;> first|(simp (disch := omega);done)|omega|(simp;done)|(simp;omega)) ?_
 rintro N ⟨e, H, mm, nt⟩ ⟨i, rfl, hi, hv, g0, g1, g7, g8, rfl⟩
 simp only [] at g0 g1 g7 g8
 refine .q ?_ (by simp (disch := first|omega|(simp only[ln];omega)) [g7, g8]; rfl)
 refine .sq fun K5 hK5 => ?_
 refine .c (fun h9 => ?_) (fun h9 => ?_)
 ·try simp only[dc]at h9
  have hi' : i < L.length := by omega
  have hat := gr_at hi'
  rw [drop_gr hi', ixF] at hv
  have zb := zL _ (gr_mem hi')
  refine .skip ?_
  refine hK5 _ ?_
  refine .sq fun K6 hK6 => ?_
  refine .block ?_
  refine .q ?_ (by simp (disch := first|omega|(simp only[ln];omega)) [g8]; rfl)
  refine .sq fun K8 hK8 => ?_
  refine .region ?_
  refine .k 5 ?_ (by simp (disch := first|omega|(simp only[ln];omega)) [List.take_succ_cons, List.take_zero, if_pos, g0, g1, g8, hat, List.length_map]; rfl)
  refine AOPS.fcall (layerFault1_fc a (gr L i) za zb) rfl rfl (by simp; rfl) hbLF (by simp (disch := first|omega|(simp only[ln];omega)) [idf_Wd', g0, g1, g8, hat, List.length_map]) (by simp (disch := first|omega|(simp only[ln];omega)) [g0, g1, g8, hat, List.length_map]) (by simp) ?_
  simp only [puts_some, updo]
  refine .nil ?_
  refine hK8 _ ?_
  refine .c (t := rgsM a (gr L i)) (fun h16 => ?_) (fun h16 => ?_)
  ·try simp only[dc]at h16
   rw [if_pos h16] at hv
   refine .q ?_ (by simp (disch := first|omega|(simp only[ln];omega)) [g8]; rfl)
   refine .ret ?_
   exact hK _ _ _ _ trivial ((Fin.m).cast (by rw [hv]))
  ·try simp only[dc]at h16
   rw [if_neg (by rw [h16]; simp)] at hv
   refine .skip ?_
   refine hK6 _ ?_
   refine .r ?_ (by simp (disch := first|omega|(simp only[ln];omega)) [g8]; rfl)
   refine ⟨L.length - (i + 1), by omega, i + 1, rfl, by omega, hv, ?_, ?_, ?_, ?_, rfl⟩ <;> first|(simp (disch := omega) [g0, g1, g7, g8];done)|omega|(simp;done)|(simp;omega)
 ·try simp only[dc]at h9
  have hin : i = L.length := by omega
  rw [hin, List.drop_length, ixF] at hv
  refine .exit ?_
  refine hK2 _ ?_
  refine .q ?_
  refine .ret ?_
  exact hK _ _ _ _ trivial ((Fin.m).cast (by rw [hv]))
theorem containsLF_fc (a : List Sp) (L : List (List Sp)) (za : rgF a = 0) (zL : ∀ r ∈ L, rgF r = 0) (hl : L.length ≤ 1099511627776) : FC Tryz.prog 155 [.isl (L.map rgC), .fn 156 [.ip [.isl (a.map Sp.cells)]]] (.bool (L.any (rgsM a))) := by
 refine .b Tryz.func155 9 (fun nx K hK => ?_) (hi := by simp [idfL, idf, idfLL_iff, rgC, Sp.cells])
 refine .q ?_
 refine .sq fun K2 hK2 => ?_
 refine .region ?_
 refine .kf 2 (indexLF_fc a L za zL hl) hb174 ?_
 refine .e ?_
 refine hK2 _ ?_
 refine .ret ?_
 exact hK _ _ _ _ trivial ((Fin.m).cast (by rw [ixF_dec]))
set_option maxHeartbeats 1000000 in
theorem spotsIn_fc (L : List (List Sp)) (h6 : L.length ≤ 6) (hl2 : ∀ r ∈ L, r.length ≤ 1099511627776) : FC Tryz.prog 154 [.isl (L.map rgC)] (.int .i64 (lyN L : Int)) := by
 refine .b Tryz.func154 19 (fun nx K hK => ?_) (hi := by simp [idfL, idf, idfLL_iff, rgC, Sp.cells])
 refine .q ?_
 refine .q ?_
 refine .sq fun K3 hK3 => ?_
 refine .q ?_ (by simp (disch := first|omega|(simp only[ln];omega)) [List.length_map]; rfl)
 refine .block ?_
 
 refine .loop (fun N s => ∃ i : Nat, N = L.length - i ∧ i ≤ L.length ∧ s.env 3 = .int .i64 (lyN (L.take i) : Int) ∧ s.env 6 = .isl (L.map rgC) ∧ s.env 7 = .int .i64 (L.length : Int) ∧ s.env 8 = .int .i64 (i : Int) ∧ s.nt = 19) (L.length) (by refine ⟨0, by omega, by omega, ?_, ?_, ?_, ?_, rfl⟩ <;> first|(simp (disch := omega) [lyN];done)|omega|(simp;done)|(simp;omega)) ?_
 rintro N ⟨e, H, mm, nt⟩ ⟨i, rfl, hi, g3, g6, g7, g8, rfl⟩
 simp only [] at g3 g6 g7 g8
 refine .q ?_ (by simp (disch := first|omega|(simp only[ln];omega)) [g7, g8]; rfl)
 refine .sq fun K6 hK6 => ?_
 refine .c (fun h9 => ?_) (fun h9 => ?_)
 ·try simp only[dc]at h9
  have hi' : i < L.length := by omega
  have hat := gr_at hi'
  have hlr := hl2 _ (gr_mem hi')
  have hst := lyN_step hi'
  have hb := lyN_take_b (c := 1099511627776) L (i + 1) hl2 (by omega)
  have hb2 := lyN_take_b (c := 1099511627776) L i hl2 (by omega)
  refine .skip ?_
  refine hK6 _ ?_
  refine .sq fun K7 hK7 => ?_
  refine .block ?_
  refine .q ?_ (by simp (disch := first|omega|(simp only[ln];omega)) [if_pos, g6, g8, hat, List.length_map]; rfl)
  refine .r ?_ (by simp (disch := first|omega|(simp only[ln];omega)) [g3, hst, List.length_map]; rfl)
  refine hK7 _ ?_
  refine .r ?_ (by simp (disch := first|omega|(simp only[ln];omega)) [g8]; rfl)
  refine ⟨L.length - (i + 1), by omega, i + 1, rfl, by omega, ?_, ?_, ?_, ?_, rfl⟩ <;> first|(simp (disch := omega) [g3, g6, g7, g8, hst];done)|omega|(simp;done)|(simp;omega)
 ·try simp only[dc]at h9
  have hin : i = L.length := by omega
  rw [hin, List.take_length] at g3
  refine .exit ?_
  refine hK3 _ ?_
  refine .q ?_ (by simp (disch := first|omega|(simp only[ln];omega)) [g3]; rfl)
  refine .ret ?_
  exact hK _ _ _ _ trivial ((Fin.m).cast (by rfl))
set_option maxHeartbeats 4000000 in
theorem layerFaultI_fc (L : List (List Sp)) (hl : L.length ≤ 1099511627776) (hl2 : ∀ r ∈ L, r.length ≤ 1099511627776) : FC Tryz.prog 120 [.isl (L.map rgC)] (.tup [.int .i64 (lyF L).1, .int .i64 (lyF L).2]) := by
 refine .b Tryz.func120 46 (fun nx K hK => ?_) (hi := by simp [idfL, idf, idfLL_iff, rgC, Sp.cells])
 refine .q ?_
 refine .sq fun K2 hK2 => ?_
 refine .block ?_
 refine .q ?_ (by simp (disch := first|omega|(simp only[ln];omega)) [List.length_map]; rfl)
 refine .c (t := decide (6 < (L.length : Int))) (fun h9 => ?_) (fun h9 => ?_)
 ·try simp only[dc]at h9
  refine .q ?_
  refine .ret ?_
  exact hK _ _ _ _ trivial ((Fin.m).cast (by rw [lyF_many (by omega)]))
 ·try simp only[dc]at h9
  have h6 : ¬ 6 < L.length := by omega
  refine .sq fun K5 hK5 => ?_
  refine .region ?_
  refine .kf 1 (spotsIn_fc L (by omega) hl2) hb154 ?_
  refine .e ?_
  refine hK5 _ ?_
  refine .c (t := decide (20 < (lyN L : Int))) (fun h13 => ?_) (fun h13 => ?_)
  ·try simp only[dc]at h13
   refine .q ?_
   refine .ret ?_
   exact hK _ _ _ _ trivial ((Fin.m).cast (by rw [lyF_spots h6 (by omega)]))
  ·try simp only[dc]at h13
   have h20 : ¬ 20 < lyN L := by omega
   refine .skip ?_
   refine hK2 _ ?_
   refine .sq fun K7 hK7 => ?_
   refine .q ?_ (by simp (disch := first|omega|(simp only[ln];omega)) [List.length_map]; rfl)
   refine .block ?_
   
   refine .loop (fun N s => ∃ i : Nat, N = L.length - i ∧ i ≤ L.length ∧ (lyF L = (lyA (L.drop i) i).getD ((lyB [] L 0).getD (0, 0))) ∧ (∀ j, j < i → rgF (gr L j) = 0) ∧ s.env 0 = .isl (L.map rgC) ∧ s.env 17 = .isl (L.map rgC) ∧ s.env 18 = .int .i64 (L.length : Int) ∧ s.env 19 = .int .i64 (i : Int) ∧ s.nt = 46) (L.length) (by refine ⟨0, by omega, by omega, lyF_go (by omega) (by omega), fun j h => by omega, ?_, ?_, ?_, ?_, rfl⟩ <;> first|(simp (disch := omega);done)|omega|(simp;done)|(simp;omega)) ?_
   rintro N ⟨e, H, mm, nt⟩ ⟨i, rfl, hi, hv, hz0, g0, g17, g18, g19, rfl⟩
   simp only [] at g0 g17 g18 g19
   refine .q ?_ (by simp (disch := first|omega|(simp only[ln];omega)) [g18, g19]; rfl)
   refine .sq fun K10 hK10 => ?_
   refine .c (fun h20 => ?_) (fun h20 => ?_)
   ·try simp only[dc]at h20
    have hi' : i < L.length := by omega
    have hat := gr_at hi'
    have hlr := hl2 _ (gr_mem hi')
    have cf := ringFaultI_fc (gr L i) hlr
    rw [lyA_step hi'] at hv
    have fb := rgF_b (gr L i)
    generalize hF : rgF (gr L i) = fv at *
    refine .skip ?_
    refine hK10 _ ?_
    refine .sq fun K11 hK11 => ?_
    refine .block ?_
    refine .q ?_ (by simp (disch := first|omega|(simp only[ln];omega)) [if_pos, g17, g19, hat, List.length_map]; rfl)
    refine .sq fun K13 hK13 => ?_
    refine .region ?_
    refine .kf 1 cf hb83 ?_
    refine .e ?_
    refine hK13 _ ?_
    refine .q ?_
    refine .c (t := fv != 0) (fun h27 => ?_) (fun h27 => ?_) (by simp (disch := first|omega|(simp only[ln];omega)) [bne])
    ·try simp only[dc]at h27
     have hz : ¬ fv = 0 := by simpa using h27
     rw [if_neg hz] at hv
     have wr : IntKind.i64.wrap (10 + fv) = 10 + fv := wrap_i64s (by omega) (by omega)
     refine .q ?_ (by simp (disch := first|omega|(simp only[ln];omega)) [wr]; rfl)
     refine .ret ?_
     exact hK _ _ _ _ trivial ((Fin.m).cast (by rw [hv]; rfl))
    ·try simp only[dc]at h27
     have hz : fv = 0 := by simpa using h27
     refine .skip ?_
     refine hK11 _ ?_
     refine .r ?_ (by simp (disch := first|omega|(simp only[ln];omega)) [g19]; rfl)
     refine ⟨L.length - (i + 1), by omega, i + 1, rfl, by omega, by rw [hv, if_pos hz], fun j h => by
       rcases Nat.lt_or_ge j i with h1 | h1
       · exact hz0 j h1
       · rw [show j = i by omega]; exact hF.trans hz, ?_, ?_, ?_, ?_, rfl⟩ <;> first|(simp (disch := omega) [g0, g17, g18, g19];done)|omega|(simp;done)|(simp;omega)
   ·try simp only[dc]at h20
    have hin : i = L.length := by omega
    subst hin
    rw [lyA_end (Nat.le_refl _)] at hv
    have hza : ∀ r ∈ L, rgF r = 0 := fun r hr => by
      obtain ⟨k, hk, e⟩ := List.mem_iff_getElem.1 hr
      have := hz0 k hk
      rw [show gr L k = r by rw [← e]; simp [gr, hk]] at this
      exact this
    replace hv : lyF L = (lyB (L.take 0) (L.drop 0) 0).getD (0, 0) := hv
    refine .exit ?_
    refine hK7 _ ?_
    refine .sq fun K16 hK16 => ?_
    refine .q ?_ (by simp (disch := first|omega|(simp only[ln];omega)) [g0, List.length_map]; rfl)
    refine .block ?_
    
    refine .loop (fun N s => ∃ i : Nat, N = L.length - i ∧ i ≤ L.length ∧ (lyF L = (lyB (L.take i) (L.drop i) i).getD (0, 0)) ∧ s.env 0 = .isl (L.map rgC) ∧ s.env 32 = .isl (L.map rgC) ∧ s.env 33 = .int .i64 (L.length : Int) ∧ s.env 34 = .int .i64 (i : Int) ∧ s.nt = 46) (L.length) (by refine ⟨0, by omega, by omega, hv, ?_, ?_, ?_, ?_, rfl⟩ <;> first|(simp (disch := omega);done)|omega|(simp;done)|(simp;omega)) ?_
    rintro N ⟨e, H, mm, nt⟩ ⟨i, rfl, hi, hv, g0, g32, g33, g34, rfl⟩
    simp only [] at g0 g32 g33 g34
    refine .q ?_ (by simp (disch := first|omega|(simp only[ln];omega)) [g33, g34]; rfl)
    refine .sq fun K19 hK19 => ?_
    refine .c (fun h35 => ?_) (fun h35 => ?_)
    ·try simp only[dc]at h35
     have hi' : i < L.length := by omega
     have hat := gr_at hi'
     have hlr := hl2 _ (gr_mem hi')
     rw [lyB_step hi'] at hv
     have zi := hza _ (gr_mem hi')
     have tk : List.drop 0 (List.take i (L.map rgC)) = (L.take i).map rgC := by rw [List.drop_zero, List.map_take]
     have tkr := rgC_len L
     have tkr' := rgC_lenx L
     have hil : i ≤ L.length := hi
     have cc := containsLF_fc (gr L i) (L.take i) zi (fun r hr => hza r (List.mem_of_mem_take hr)) (by rw [List.length_take]; omega)
     refine .skip ?_
     refine hK19 _ ?_
     refine .sq fun K20 hK20 => ?_
     refine .block ?_
     refine .q ?_ (by simp (disch := first|omega|(simp only[ln];omega)) [if_pos, g32, g34, hat, List.length_map]; rfl)
     refine .sq fun K22 hK22 => ?_
     refine .region ?_
     refine .k 4 ?_ (by simp (disch := first|omega|(simp only[ln];omega)) [List.take_succ_cons, List.take_zero, if_pos, g0, hil, tk, tkr, tkr', List.map_take, List.length_map]; rfl)
     refine AOPS.lcall 4 (cc) rfl rfl rfl hb155 (by simp (disch := first|omega|(simp only[ln];omega)) [lv, idf_Wd', lv_rgD, lv_rgC, lv_sp, lv_int, List.drop_zero, List.map_take, g0, hil, tk, tkr, tkr', List.map_take, List.length_map]) (by simp [atm, atmL]) (by simp (disch := first|omega|(simp only[ln];omega)) [g0, hil, tk, tkr, tkr', List.map_take, List.length_map]) (by simp) ?_
     simp only [puts_some, updo]
     refine .nil ?_
     refine hK22 _ ?_
     refine .c (t := (L.take i).any (rgsM (gr L i))) (fun h43 => ?_) (fun h43 => ?_)
     ·try simp only[dc]at h43
      rw [if_pos h43] at hv
      refine .q ?_
      refine .ret ?_
      exact hK _ _ _ _ trivial ((Fin.m).cast (by rw [hv]; rfl))
     ·try simp only[dc]at h43
      rw [if_neg (by rw [h43]; simp)] at hv
      refine .skip ?_
      refine hK20 _ ?_
      refine .r ?_ (by simp (disch := first|omega|(simp only[ln];omega)) [g34]; rfl)
      refine ⟨L.length - (i + 1), by omega, i + 1, rfl, by omega, hv, ?_, ?_, ?_, ?_, rfl⟩ <;> first|(simp (disch := omega) [g0, g32, g33, g34];done)|omega|(simp;done)|(simp;omega)
    ·try simp only[dc]at h35
     have hin : i = L.length := by omega
     rw [lyB_end (by omega)] at hv
     refine .exit ?_
     refine hK16 _ ?_
     refine .q ?_
     refine .ret ?_
     exact hK _ _ _ _ trivial ((Fin.m).cast (by rw [hv]; rfl))
set_option maxHeartbeats 4000000 in
theorem layerFaultS_fc (L : List (List Sp)) (hl : L.length ≤ 1099511627776) (hl2 : ∀ r ∈ L, r.length ≤ 1099511627776) : FC Tryz.prog 118 [.isl (L.map rgC)] (.tup [.int .i64 (lyF L).1, .int .i64 (lyF L).2]) := by
 refine .b Tryz.func118 66 (fun nx K hK => ?_) (hi := by simp [idfL, idf, idfLL_iff, rgC, Sp.cells])
 refine .q ?_
 refine .sq fun K2 hK2 => ?_
 refine .q ?_ (by simp (disch := first|omega|(simp only[ln];omega)) [List.length_map]; rfl)
 refine .c (t := decide (6 < (L.length : Int))) (fun h12 => ?_) (fun h12 => ?_)
 ·try simp only[dc]at h12
  refine .q ?_
  refine .ret ?_
  exact hK _ _ _ _ trivial ((Fin.m).cast (by rw [lyF_many (by omega)]))
 ·try simp only[dc]at h12
  have h6 : ¬ 6 < L.length := by omega
  refine .skip ?_
  refine hK2 _ ?_
  refine .q ?_
  refine .sq fun K6 hK6 => ?_
  refine .q ?_
  refine .block ?_
  
  refine .loop (fun N s => ∃ i : Nat, N = L.length - i ∧ i ≤ L.length ∧ s.env 0 = .isl (L.map rgC) ∧ s.env 4 = .int .i64 (lyN (L.take i) : Int) ∧ s.env 5 = .int .i64 (i : Int) ∧ s.nt = 66) (L.length) (by refine ⟨0, by omega, by omega, ?_, ?_, ?_, rfl⟩ <;> first|(simp (disch := omega) [lyN];done)|omega|(simp;done)|(simp;omega)) ?_
  rintro N ⟨e, H, mm, nt⟩ ⟨i, rfl, hi, g0, g4, g5, rfl⟩
  simp only [] at g0 g4 g5
  refine .sq fun K8 hK8 => ?_
  refine .q ?_ (by simp (disch := first|omega|(simp only[ln];omega)) [g0, g5, List.length_map]; rfl)
  refine .c (fun h16 => ?_) (fun h16 => ?_)
  ·try simp only[dc]at h16
   have hi' : i < L.length := by omega
   have hat := gr_at hi'
   have hlr := hl2 _ (gr_mem hi')
   have hst := lyN_step hi'
   have hb := lyN_take_b (c := 1099511627776) L (i + 1) hl2 (by omega)
   have hb2 := lyN_take_b (c := 1099511627776) L i hl2 (by omega)
   refine .skip ?_
   refine hK8 _ ?_
   refine .sq fun K10 hK10 => ?_
   refine .block ?_
   refine .r ?_ (by simp (disch := first|omega|(simp only[ln];omega)) [if_pos, g0, g4, g5, hat, hst, List.length_map]; rfl)
   refine hK10 _ ?_
   refine .r ?_ (by simp (disch := first|omega|(simp only[ln];omega)) [g5]; rfl)
   refine ⟨L.length - (i + 1), by omega, i + 1, rfl, by omega, ?_, ?_, ?_, rfl⟩ <;> first|(simp (disch := omega) [g0, g4, g5, hst];done)|omega|(simp;done)|(simp;omega)
  ·try simp only[dc]at h16
   have hin : i = L.length := by omega
   rw [hin, List.take_length] at g4
   refine .exit ?_
   refine hK6 _ ?_
   refine .sq fun K11 hK11 => ?_
   refine .q ?_ (by simp (disch := first|omega|(simp only[ln];omega)) [g4]; rfl)
   refine .c (t := decide (20 < (lyN L : Int))) (fun h28 => ?_) (fun h28 => ?_)
   ·try simp only[dc]at h28
    refine .q ?_
    refine .ret ?_
    exact hK _ _ _ _ trivial ((Fin.m).cast (by rw [lyF_spots h6 (by omega)]))
   ·try simp only[dc]at h28
    have h20 : ¬ 20 < lyN L := by omega
    refine .skip ?_
    refine hK11 _ ?_
    refine .sq fun K14 hK14 => ?_
    refine .q ?_
    refine .block ?_
    
    refine .loop (fun N s => ∃ i : Nat, N = L.length - i ∧ i ≤ L.length ∧ (lyF L = (lyA (L.drop i) i).getD ((lyB [] L 0).getD (0, 0))) ∧ (∀ j, j < i → rgF (gr L j) = 0) ∧ s.env 0 = .isl (L.map rgC) ∧ s.env 6 = .int .i64 (i : Int) ∧ s.nt = 66) (L.length) (by refine ⟨0, by omega, by omega, lyF_go (by omega) (by omega), fun j h => by omega, ?_, ?_, rfl⟩ <;> first|(simp (disch := omega) [g0];done)|omega|(simp;done)|(simp;omega)) ?_
    rintro N ⟨e, H, mm, nt⟩ ⟨i, rfl, hi, hv, hz0, g0, g6, rfl⟩
    simp only [] at g0 g6
    refine .sq fun K16 hK16 => ?_
    refine .q ?_ (by simp (disch := first|omega|(simp only[ln];omega)) [g0, g6, List.length_map]; rfl)
    refine .c (fun h32 => ?_) (fun h32 => ?_)
    ·try simp only[dc]at h32
     have hi' : i < L.length := by omega
     have hat := gr_at hi'
     have hlr := hl2 _ (gr_mem hi')
     have cf := ringFaultS_fc (gr L i) hlr
     rw [lyA_step hi'] at hv
     have fb := rgF_b (gr L i)
     generalize hF : rgF (gr L i) = fv at *
     refine .skip ?_
     refine hK16 _ ?_
     refine .sq fun K18 hK18 => ?_
     refine .block ?_
     refine .sq fun K19 hK19 => ?_
     refine .region ?_
     refine .kf 4 cf hb72 ?_ (by simp (disch := first|omega|(simp only[ln];omega)) [List.take_succ_cons, List.take_zero, if_pos, g0, g6, hat, List.length_map]; rfl) (ha := by simp (disch := first|omega|(simp only[ln];omega)) [idf_Wd', if_pos, g0, g6, hat, List.length_map])
     refine .e ?_ (by simp (disch := first|omega|(simp only[ln];omega)) [if_pos, g0, g6, hat, List.length_map]; rfl)
     refine hK19 _ ?_
     refine .q ?_
     refine .c (t := fv != 0) (fun h41 => ?_) (fun h41 => ?_) (by simp (disch := first|omega|(simp only[ln];omega)) [bne])
     ·try simp only[dc]at h41
      have hz : ¬ fv = 0 := by simpa using h41
      rw [if_neg hz] at hv
      have wr : IntKind.i64.wrap (10 + fv) = 10 + fv := wrap_i64s (by omega) (by omega)
      refine .q ?_ (by simp (disch := first|omega|(simp only[ln];omega)) [g6, wr]; rfl)
      refine .ret ?_
      exact hK _ _ _ _ trivial ((Fin.m).cast (by rw [hv]; rfl))
     ·try simp only[dc]at h41
      have hz : fv = 0 := by simpa using h41
      refine .skip ?_
      refine hK18 _ ?_
      refine .r ?_ (by simp (disch := first|omega|(simp only[ln];omega)) [g6]; rfl)
      refine ⟨L.length - (i + 1), by omega, i + 1, rfl, by omega, by rw [hv, if_pos hz], fun j h => by
        rcases Nat.lt_or_ge j i with h1 | h1
        · exact hz0 j h1
        · rw [show j = i by omega]; exact hF.trans hz, ?_, ?_, rfl⟩ <;> first|(simp (disch := omega) [g0, g6];done)|omega|(simp;done)|(simp;omega)
    ·try simp only[dc]at h32
     have hin : i = L.length := by omega
     subst hin
     rw [lyA_end (Nat.le_refl _)] at hv
     have hza : ∀ r ∈ L, rgF r = 0 := fun r hr => by
       obtain ⟨k, hk, e⟩ := List.mem_iff_getElem.1 hr
       have := hz0 k hk
       rw [show gr L k = r by rw [← e]; simp [gr, hk]] at this
       exact this
     replace hv : lyF L = (lyB (L.take 0) (L.drop 0) 0).getD (0, 0) := hv
     refine .exit ?_
     refine hK14 _ ?_
     refine .sq fun K22 hK22 => ?_
     refine .q ?_
     refine .block ?_
     
     refine .loop (fun N s => ∃ i : Nat, N = L.length - i ∧ i ≤ L.length ∧ (lyF L = (lyB (L.take i) (L.drop i) i).getD (0, 0)) ∧ s.env 0 = .isl (L.map rgC) ∧ s.env 8 = .int .i64 (i : Int) ∧ s.nt = 66) (L.length) (by refine ⟨0, by omega, by omega, hv, ?_, ?_, rfl⟩ <;> first|(simp (disch := omega) [g0];done)|omega|(simp;done)|(simp;omega)) ?_
     rintro N ⟨e, H, mm, nt⟩ ⟨i, rfl, hi, hv, g0, g8, rfl⟩
     simp only [] at g0 g8
     refine .sq fun K24 hK24 => ?_
     refine .q ?_ (by simp (disch := first|omega|(simp only[ln];omega)) [g0, g8, List.length_map]; rfl)
     refine .c (fun h48 => ?_) (fun h48 => ?_)
     ·try simp only[dc]at h48
      have hi' : i < L.length := by omega
      have hat := gr_at hi'
      have hlr := hl2 _ (gr_mem hi')
      rw [lyB_step hi'] at hv
      have zi := hza _ (gr_mem hi')
      refine .skip ?_
      refine hK24 _ ?_
      refine .sq fun K26 hK26 => ?_
      refine .block ?_
      refine .q ?_
      refine .block ?_
      
      refine .loop (fun N s => ∃ k : Nat, N = i - k ∧ k ≤ i ∧ (∀ j, j < k → rgsM (gr L i) (gr L j) = false) ∧ s.env 0 = .isl (L.map rgC) ∧ s.env 8 = .int .i64 (i : Int) ∧ s.env 9 = .int .i64 (k : Int) ∧ s.nt = 66) (i) (by refine ⟨0, by omega, by omega, fun j h => by omega, ?_, ?_, ?_, rfl⟩ <;> first|(simp (disch := omega) [g0, g8];done)|omega|(simp;done)|(simp;omega)) ?_
      rintro N ⟨e, H, mm, nt⟩ ⟨k, rfl, hk, hn, g0, g8, g9, rfl⟩
      simp only [] at g0 g8 g9
      refine .sq fun K28 hK28 => ?_
      refine .q ?_ (by simp (disch := first|omega|(simp only[ln];omega)) [g8, g9]; rfl)
      refine .c (fun h53 => ?_) (fun h53 => ?_)
      ·try simp only[dc]at h53
       have hk' : k < L.length := by omega
       have hki : k < i := by omega
       have hatk := gr_at hk'
       have cm := l5Meet_fc (gr L i) (gr L k) zi (hza _ (gr_mem hk'))
       refine .skip ?_
       refine hK28 _ ?_
       refine .sq fun K30 hK30 => ?_
       refine .block ?_
       refine .sq fun K31 hK31 => ?_
       refine .d 9 ?_
       refine .k 8 (fun fs32 hfs32 => ?_) (by simp (disch := first|omega|(simp only[ln];omega)) [runDf.eq_def, runF1, runF2, stepF.eq_def, updo.eq_def, hupo.eq_def, opSto1.eq_def, List.take_succ_cons, List.take_zero, if_pos, g0, g8, g9, hat, hatk, hi', hk', List.length_map]; rfl)
       refine .f cm hb153 ?_ (ha := by simp (disch := first|omega|(simp only[ln];omega)) [idf_Wd', if_pos, g0, g8, g9, hat, hatk, hi', hk', List.length_map])
       refine .r 9 (by simp only[ln, hfs32];omega) ?_ (by simp (disch := first|omega|(simp only[ln];omega)) [runDf.eq_def, runF1, runF2, stepF.eq_def, updo.eq_def, hupo.eq_def, opSto1.eq_def, if_pos, g0, g8, g9, hat, hatk, hi', hk', List.length_map]; rfl)
       refine hK31 _ ?_
       refine .c (t := rgsM (gr L i) (gr L k)) (fun h64 => ?_) (fun h64 => ?_)
       ·try simp only[dc]at h64
        rw [if_pos ((any_take (Nat.le_of_lt hi')).2 ⟨k, hki, h64⟩)] at hv
        refine .q ?_ (by simp (disch := first|omega|(simp only[ln];omega)) [g8]; rfl)
        refine .ret ?_
        exact hK _ _ _ _ trivial ((Fin.m).cast (by rw [hv]; rfl))
       ·try simp only[dc]at h64
        refine .skip ?_
        refine hK30 _ ?_
        refine .r ?_ (by simp (disch := first|omega|(simp only[ln];omega)) [g9]; rfl)
        refine ⟨i - (k + 1), by omega, k + 1, rfl, by omega, fun j h => by
          rcases Nat.lt_or_ge j k with h1 | h1
          · exact hn j h1
          · rw [show j = k by omega]; exact h64, ?_, ?_, ?_, rfl⟩ <;> first|(simp (disch := omega) [g0, g8, g9];done)|omega|(simp;done)|(simp;omega)
      ·try simp only[dc]at h53
       have hany : (L.take i).any (rgsM (gr L i)) = false := by
         cases hc : (L.take i).any (rgsM (gr L i)) with
         | false => rfl
         | true =>
           obtain ⟨j, hj, e⟩ := (any_take (Nat.le_of_lt hi')).1 hc
           rw [hn j (by omega)] at e; simp at e
       rw [if_neg (by rw [hany]; simp)] at hv
       refine .exit ?_
       refine hK26 _ ?_
       refine .r ?_ (by simp (disch := first|omega|(simp only[ln];omega)) [g8]; rfl)
       refine ⟨L.length - (i + 1), by omega, i + 1, rfl, by omega, hv, ?_, ?_, rfl⟩ <;> first|(simp (disch := omega) [g0, g8];done)|omega|(simp;done)|(simp;omega)
     ·try simp only[dc]at h48
      have hin : i = L.length := by omega
      rw [lyB_end (by omega)] at hv
      refine .exit ?_
      refine hK22 _ ?_
      refine .q ?_
      refine .ret ?_
      exact hK _ _ _ _ trivial ((Fin.m).cast (by rw [hv]; rfl))
end

end Go.Proofs.YtdcajfgeleopiaaGreat

/- Walks: FnExactLayerFault, walked: the law. -/
namespace Go.Proofs.YtdcajfgeleopiaaGreat
open Go Go.RowKit
set_option linter.unusedSimpArgs false
set_option linter.unusedVariables false
set_option maxRecDepth 100000




end Go.Proofs.YtdcajfgeleopiaaGreat

/- Walks: sides, depths, areas of layers. -/
namespace Go.Proofs.YtdcajfgeleopiaaGreat
open Go Go.RowKit
set_option linter.unusedSimpArgs false
set_option linter.unusedVariables false
set_option maxRecDepth 100000
attribute [local simp] szT2 byT2 agT2 unT2 zoT2 szT3 byT3 agT3 unT3 zoT3 szT32 byT32 agT32 elT32 unT32 zoT32 szT34 byT34 agT34 flT34 fdT34_0 zoT34 szT36 byT36 agT36 flT36 fdT36_0 fdT36_1 fdT36_2 fdT36_3 zoT36 szT38 byT38 agT38 flT38 fdT38_0 fdT38_1 fdT38_2 zoT38 szT59 byT59 agT59 elT59 unT59 zoT59 szT73 byT73 agT73 flT73 fdT73_0 fdT73_1 zoT73 szT75 byT75 agT75 flT75 fdT75_0 fdT75_1 fdT75_2 zoT75

theorem tmod2 {n : Int} (h : 0 ≤ n) : Int.tmod n 2 = n % 2 := Int.tmod_eq_emod_of_nonneg h
theorem lyT_eq (L : List (List Sp)) (i : Nat) : lyT L i = if dpN L i % 2 = 1 then -((area (gr L i)).natAbs : Int) else ((area (gr L i)).natAbs : Int) := rfl
theorem gr_ok {L : List (List Sp)} (h : ∀ r ∈ L, rgF r = 0) {i : Nat} (hi : i < L.length) : rgF (gr L i) = 0 := h _ (gr_mem hi)

section
attribute [local simp] Sp.av Sp.cells Sg.av Sg.cells
theorem isLayer_fc (L : List (List Sp)) (hl : L.length ≤ 1099511627776) (hl2 : ∀ r ∈ L, r.length ≤ 1099511627776) : FC Tryz.prog 66 [.isl (L.map rgC)] (.bool (decide ((lyF L).1 = 0))) := by
 refine .b Tryz.func66 12 (fun nx K hK => ?_) (hi := by simp [idfL, idf, idfLL_iff, rgC, Sp.cells])
 refine .q ?_
 refine .sq fun K2 hK2 => ?_
 refine .region ?_
 refine .kf 1 (layerFaultI_fc L hl hl2) hb120 ?_
 refine .e ?_
 refine hK2 _ ?_
 refine .q ?_
 refine .ret ?_
 exact hK _ _ _ _ trivial ((Fin.mk (r := .bool ((lyF L).1 == 0)) (by simp [aRes, aResL, aRes1])).cast (by rw [beqdI]))
theorem l6Ok_fc (L : List (List Sp)) (hl : L.length ≤ 1099511627776) (hl2 : ∀ r ∈ L, r.length ≤ 1099511627776) : FC Tryz.prog 63 [.isl (L.map rgC)] (.bool (decide ((lyF L).1 = 0))) := by
 refine .b Tryz.func63 12 (fun nx K hK => ?_) (hi := by simp [idfL, idf, idfLL_iff, rgC, Sp.cells])
 refine .q ?_
 refine .sq fun K2 hK2 => ?_
 refine .region ?_
 refine .kf 1 (layerFaultS_fc L hl hl2) hb118 ?_
 refine .e ?_
 refine hK2 _ ?_
 refine .q ?_
 refine .ret ?_
 exact hK _ _ _ _ trivial ((Fin.mk (r := .bool ((lyF L).1 == 0)) (by simp [aRes, aResL, aRes1])).cast (by rw [beqdI]))
end
section
attribute [local simp] Sp.av Sp.cells Sg.av Sg.cells Pt.av Pt.cells
set_option maxHeartbeats 4000000 in
theorem layerSideI_fc (L : List (List Sp)) (hl : L.length ≤ 1099511627776) (hl2 : ∀ r ∈ L, r.length ≤ 1099511627776) (p : Pt) (hp : p.ok) : FC Tryz.prog 29 [.isl (L.map rgC), p.av] (.int .i64 (lyV L p : Int)) := by
 refine .b Tryz.func29 33 (fun nx K hK => ?_) (hi := by simp [idfL, idf, idfLL_iff, rgC, Sp.cells, Pt.av, Pt.cells])
 refine .q ?_
 refine .sq fun K2 hK2 => ?_
 refine .sq fun K3 hK3 => ?_
 by_cases zl : (lyF L).1 = 0
 ·have hd : decide ((lyF L).1 = 0) = true := decide_eq_true zl
  cases gp : p.good
  ·refine .region ?_
   refine .kf 1 (isLayer_fc L hl hl2) hb66 ?_ (by simp (disch := first|omega|(simp only[ln];omega)) [List.take_succ_cons, List.take_zero, hd, gp]; rfl) (ha := by simp (disch := first|omega|(simp only[ln];omega)) [idf_Wd', hd, gp])
   refine .kf 3 (pointOkI_fc p hp) hb38 ?_ (by simp (disch := first|omega|(simp only[ln];omega)) [List.take_succ_cons, List.take_zero, hd, gp]; rfl) (ha := by simp (disch := first|omega|(simp only[ln];omega)) [idf_Wd', hd, gp])
   refine .e ?_ (by simp (disch := first|omega|(simp only[ln];omega)) [hd, gp]; rfl)
   refine hK3 _ ?_
   refine .c (fun h15 => ?_) (fun h15 => ?_)
   ·try simp only[dc]at h15
    refine .q ?_
    refine .ret ?_
    exact hK _ _ _ _ trivial ((Fin.m).cast (by rw [lyV_np gp]))
   ·simp at h15
  ·refine .region ?_
   refine .kf 1 (isLayer_fc L hl hl2) hb66 ?_ (by simp (disch := first|omega|(simp only[ln];omega)) [List.take_succ_cons, List.take_zero, hd, gp]; rfl) (ha := by simp (disch := first|omega|(simp only[ln];omega)) [idf_Wd', hd, gp])
   refine .kf 3 (pointOkI_fc p hp) hb38 ?_ (by simp (disch := first|omega|(simp only[ln];omega)) [List.take_succ_cons, List.take_zero, hd, gp]; rfl) (ha := by simp (disch := first|omega|(simp only[ln];omega)) [idf_Wd', hd, gp])
   refine .e ?_ (by simp (disch := first|omega|(simp only[ln];omega)) [hd, gp]; rfl)
   refine hK3 _ ?_
   refine .c (fun h15 => ?_) (fun h15 => ?_)
   ·simp at h15
   ·try simp only[dc]at h15
    obtain ⟨n6, n20, za, zap⟩ := lyF_ok zl
    refine .skip ?_
    refine hK2 _ ?_
    refine .q ?_
    refine .sq fun K6 hK6 => ?_
    refine .q ?_ (by simp (disch := first|omega|(simp only[ln];omega)) [List.length_map]; rfl)
    refine .block ?_
    
    refine .loop (fun N s => ∃ i : Nat, ∃ o : Bool, N = L.length - i ∧ i ≤ L.length ∧ (lyV L p = sdv (lyS p (L.drop i) o)) ∧ s.env 3 = .ptr nx 0 0 ∧ s.env 5 = .int .i64 (sgn o) ∧ s.env 16 = .isl (L.map rgC) ∧ s.env 17 = .int .i64 (L.length : Int) ∧ s.env 18 = .int .i64 (i : Int) ∧ s.heap nx = some (12, [[.int .u64 p.x.a, .int .u64 p.x.b, .int .u64 p.x.c, .int .u64 p.x.d, .int .u64 p.y.a, .int .u64 p.y.b, .int .u64 p.y.c, .int .u64 p.y.d, .int .u64 p.w.a, .int .u64 p.w.b, .int .u64 p.w.c, .int .u64 p.w.d]]) ∧ nx < s.nx ∧ s.nt = 33) (L.length) (by refine ⟨0, false, by omega, by omega, lyV_ok zl gp, ?_, ?_, ?_, ?_, ?_, ?_, ?_, rfl⟩ <;> first|(simp (disch := omega) [sgn];done)|omega|(simp;done)|(simp;omega)) ?_
    rintro N ⟨e, H, mm, nt⟩ ⟨i, o, rfl, hi, hv, g3, g5, g16, g17, g18, Hp, xp, rfl⟩
    simp only [] at g3 g5 g16 g17 g18 Hp xp
    refine .q ?_ (by simp (disch := first|omega|(simp only[ln];omega)) [g17, g18]; rfl)
    refine .sq fun K9 hK9 => ?_
    refine .c (fun h19 => ?_) (fun h19 => ?_)
    ·try simp only[dc]at h19
     have hi' : i < L.length := by omega
     have hat := gr_at hi'
     have hlr := hl2 _ (gr_mem hi')
     obtain ⟨_, w12, w3, w4, _⟩ := rgF_zero (gr_ok za hi')
     have cs := sideI_fc (gr L i) w3 hlr p hp gp
     have vb := rgV_b (gr L i) p
     rw [lyS_step o hi'] at hv
     generalize hV : rgV (gr L i) p = V at *
     have hsw := sgn_not o
     have hsb := sgn_b (!o)
     have hsb2 := sgn_b o
     refine .skip ?_
     refine hK9 _ ?_
     refine .sq fun K10 hK10 => ?_
     have J10 : ∀ s : St, (∃ o' : Bool, (lyV L p = sdv (lyS p (L.drop (i + 1)) o')) ∧ s.env 3 = .ptr nx 0 0 ∧ s.env 5 = .int .i64 (sgn o') ∧ s.env 16 = .isl (L.map rgC) ∧ s.env 17 = .int .i64 (L.length : Int) ∧ s.env 18 = .int .i64 (i : Int) ∧ s.heap nx = some (12, [[.int .u64 p.x.a, .int .u64 p.x.b, .int .u64 p.x.c, .int .u64 p.x.d, .int .u64 p.y.a, .int .u64 p.y.b, .int .u64 p.y.c, .int .u64 p.y.d, .int .u64 p.w.a, .int .u64 p.w.b, .int .u64 p.w.c, .int .u64 p.w.d]]) ∧ nx < s.nx ∧ s.nt = 33) → K10 s := by
      clear hv
      rintro ⟨e, H, mm, nt⟩ ⟨o', hv', g3j, g5j, g16j, g17j, g18j, Hpj, xpj, rfl⟩
      simp only [] at g3j g5j g16j g17j g18j Hpj xpj
      refine hK10 _ ?_
      refine .r ?_ (by simp (disch := first|omega|(simp only[ln];omega)) [g3j, g5j, g16j, g17j, g18j, Hpj]; rfl)
      refine ⟨L.length - (i + 1), by omega, i + 1, o', rfl, by omega, hv', ?_, ?_, ?_, ?_, ?_, ?_, ?_, rfl⟩ <;> first|(simp (disch := omega) [g3j, g5j, g16j, g17j, g18j, Hpj];done)|omega|(simp;done)|(simp;omega)
     refine .block ?_
     refine .q ?_ (by simp (disch := first|omega|(simp only[ln];omega)) [if_pos, g16, g18, hat, List.length_map]; rfl)
     refine .sq fun K12 hK12 => ?_
     refine .region ?_
     refine .kf 2 cs hb39 ?_ (by simp (disch := first|omega|(simp only[ln];omega)) [List.take_succ_cons, List.take_zero, g3, Hp]; rfl) (ha := by simp (disch := first|omega|(simp only[ln];omega)) [idf_Wd', g3, Hp])
     refine .nil ?_
     refine hK12 _ ?_
     refine .block ?_
     refine .q ?_
     refine .c (t := V == 0) (fun h25 => ?_) (fun h25 => ?_)
     ·try simp only[dc]at h25
      have v0 : V = 0 := by simpa using h25
      rw [if_pos v0] at hv
      refine .q ?_
      refine .ret ?_
      exact hK _ _ _ _ trivial ((Fin.m).cast (by rw [hv]; rfl))
     ·try simp only[dc]at h25
      have v0 : ¬ V = 0 := by simpa using h25
      rw [if_neg v0] at hv
      refine .q ?_
      refine .c (t := V == 1) (fun h27 => ?_) (fun h27 => ?_)
      ·try simp only[dc]at h27
       have v1 : V = 1 := by simpa using h27
       refine .r ?_ (by simp (disch := first|omega|(simp only[ln];omega)) [g5, hsw]; rfl)
       refine J10 _ ?_
       refine ⟨!o, by rw [hv, decide_eq_true v1]; cases o <;> rfl, ?_, ?_, ?_, ?_, ?_, ?_, ?_, rfl⟩ <;> first|(simp (disch := omega) [g3, g5, g16, g17, g18, Hp, hsw];done)|omega|(simp;done)|(simp;omega)
      ·try simp only[dc]at h27
       have v1 : ¬ V = 1 := by simpa using h27
       refine .skip ?_
       refine J10 _ ?_
       refine ⟨o, by rw [hv, decide_eq_false v1]; cases o <;> rfl, ?_, ?_, ?_, ?_, ?_, ?_, ?_, rfl⟩ <;> first|(simp (disch := omega) [g3, g5, g16, g17, g18, Hp, hsw];done)|omega|(simp;done)|(simp;omega)
    ·try simp only[dc]at h19
     have hin : i = L.length := by omega
     rw [lyS_end o (by omega), sdv_some] at hv
     refine .exit ?_
     refine hK6 _ ?_
     refine .q ?_ (by simp (disch := first|omega|(simp only[ln];omega)) [g5]; rfl)
     refine .ret ?_
     exact hK _ _ _ _ trivial ((Fin.m).cast (by rw [hv]))
 ·have hd : decide ((lyF L).1 = 0) = false := decide_eq_false zl
  refine .region ?_
  refine .kf 1 (isLayer_fc L hl hl2) hb66 ?_ (by simp (disch := first|omega|(simp only[ln];omega)) [List.take_succ_cons, List.take_zero, hd]; rfl) (ha := by simp (disch := first|omega|(simp only[ln];omega)) [idf_Wd', hd])
  refine .e ?_ (by simp (disch := first|omega|(simp only[ln];omega)) [hd]; rfl)
  refine hK3 _ ?_
  refine .c (fun h15 => ?_) (fun h15 => ?_)
  ·try simp only[dc]at h15
   refine .q ?_
   refine .ret ?_
   exact hK _ _ _ _ trivial ((Fin.m).cast (by rw [lyV_no zl]))
  ·simp at h15
end
section
attribute [local simp] idf_numS cells_numS numS_fold idf_numI cells_numI numI_fold Sp.av Sp.cells Sg.av Sg.cells Pt.av Pt.cells l3A l3C
set_option maxHeartbeats 4000000 in
theorem l6Side_fc (L : List (List Sp)) (hl : L.length ≤ 1099511627776) (za : ∀ r ∈ L, rgF r = 0) (p : Pt) (hp : p.ok) (gp : p.good = true) : FC Tryz.prog 71 [.isl (L.map rgC), l3A p.x.v p.y.v p.w.v] (.int .i64 (sdv (lyS p L false) : Int)) := by
 refine .b Tryz.func71 26 (fun nx K hK => ?_) (hi := by simp [idfL, idf, idfLL_iff, rgC, Sp.cells, l3A, l3C, idf_Wd'])
 refine .q ?_
 refine .q ?_
 refine .sq fun K3 hK3 => ?_
 refine .q ?_
 refine .block ?_
 
 refine .loop (fun N s => ∃ i : Nat, ∃ o : Bool, N = L.length - i ∧ i ≤ L.length ∧ (lyS p L false = lyS p (L.drop i) o) ∧ s.env 0 = .isl (L.map rgC) ∧ s.env 3 = .ptr nx 0 0 ∧ s.env 5 = .bool o ∧ s.env 6 = .int .i64 (i : Int) ∧ s.heap nx = some (6, [l3C p.x.v p.y.v p.w.v]) ∧ nx < s.nx ∧ s.nt = 26) (L.length) (by refine ⟨0, false, by omega, by omega, rfl, ?_, ?_, ?_, ?_, ?_, ?_, rfl⟩ <;> first|(simp (disch := omega) [l3C];done)|omega|(simp;done)|(simp;omega)) ?_
 rintro N ⟨e, H, mm, nt⟩ ⟨i, o, rfl, hi, hv, g0, g3, g5, g6, Hp, xp, rfl⟩
 simp only [] at g0 g3 g5 g6 Hp xp
 refine .sq fun K5 hK5 => ?_
 refine .q ?_ (by simp (disch := first|omega|(simp only[ln];omega)) [g0, g6, List.length_map]; rfl)
 refine .c (fun h10 => ?_) (fun h10 => ?_)
 ·try simp only[dc]at h10
  have hi' : i < L.length := by omega
  have hat := gr_at hi'
  obtain ⟨w1, w12, w3, w4, _⟩ := rgF_zero (gr_ok za hi')
  have cs := l5In_fc (gr L i) w3 (by omega) p hp gp w4 w1
  have vb := rgV_b (gr L i) p
  rw [lyS_step o hi'] at hv
  generalize hV : rgV (gr L i) p = V at *
  refine .skip ?_
  refine hK5 _ ?_
  refine .sq fun K7 hK7 => ?_
  have J7 : ∀ s : St, (∃ o' : Bool, (lyS p L false = lyS p (L.drop (i + 1)) o') ∧ s.env 0 = .isl (L.map rgC) ∧ s.env 3 = .ptr nx 0 0 ∧ s.env 5 = .bool o' ∧ s.env 6 = .int .i64 (i : Int) ∧ s.heap nx = some (6, [l3C p.x.v p.y.v p.w.v]) ∧ nx < s.nx ∧ s.nt = 26) → K7 s := by
   clear hv
   rintro ⟨e, H, mm, nt⟩ ⟨o', hv', g0j, g3j, g5j, g6j, Hpj, xpj, rfl⟩
   simp only [] at g0j g3j g5j g6j Hpj xpj
   refine hK7 _ ?_
   refine .r ?_ (by simp (disch := first|omega|(simp only[ln];omega)) [g0j, g3j, g5j, g6j, Hpj]; rfl)
   refine ⟨L.length - (i + 1), by omega, i + 1, o', rfl, by omega, hv', ?_, ?_, ?_, ?_, ?_, ?_, rfl⟩ <;> first|(simp (disch := omega) [g0j, g3j, g5j, g6j, Hpj];done)|omega|(simp;done)|(simp;omega)
  refine .block ?_
  refine .sq fun K8 hK8 => ?_
  refine .d 6 ?_
  refine .k 5 (fun fs9 hfs9 => ?_) (by simp (disch := first|omega|(simp only[ln];omega)) [runDf.eq_def, runF1, runF2, stepF.eq_def, updo.eq_def, hupo.eq_def, opSto1.eq_def, List.take_succ_cons, List.take_zero, if_pos, g0, g3, g6, hat, Hp, List.length_map]; rfl)
  refine .f cs hb33 ?_ (ha := by simp (disch := first|omega|(simp only[ln];omega)) [idf_Wd', if_pos, g0, g3, g6, hat, Hp, List.length_map])
  refine .r 6 (by simp only[ln, hfs9];omega) ?_ (by simp (disch := first|omega|(simp only[ln];omega)) [runDf.eq_def, runF1, runF2, stepF.eq_def, updo.eq_def, hupo.eq_def, opSto1.eq_def, if_pos, g0, g3, g6, hat, Hp, List.length_map]; rfl)
  refine hK8 _ ?_
  refine .block ?_
  refine .q ?_
  refine .c (t := V == 0) (fun h19 => ?_) (fun h19 => ?_)
  ·try simp only[dc]at h19
   have v0 : V = 0 := by simpa using h19
   rw [if_pos v0] at hv
   refine .q ?_
   refine .ret ?_
   exact hK _ _ _ _ trivial ((Fin.m).cast (by rw [hv]; rfl))
  ·try simp only[dc]at h19
   have v0 : ¬ V = 0 := by simpa using h19
   rw [if_neg v0] at hv
   refine .q ?_
   refine .c (t := V == 1) (fun h21 => ?_) (fun h21 => ?_)
   ·try simp only[dc]at h21
    have v1 : V = 1 := by simpa using h21
    refine .r ?_ (by simp (disch := first|omega|(simp only[ln];omega)) [g5]; rfl)
    refine J7 _ ?_
    refine ⟨!o, by rw [hv, decide_eq_true v1]; cases o <;> rfl, ?_, ?_, ?_, ?_, ?_, ?_, rfl⟩ <;> first|(simp (disch := omega) [g0, g3, g5, g6, Hp];done)|omega|(simp;done)|(simp;omega)
   ·try simp only[dc]at h21
    have v1 : ¬ V = 1 := by simpa using h21
    refine .skip ?_
    refine J7 _ ?_
    refine ⟨o, by rw [hv, decide_eq_false v1]; cases o <;> rfl, ?_, ?_, ?_, ?_, ?_, ?_, rfl⟩ <;> first|(simp (disch := omega) [g0, g3, g5, g6, Hp];done)|omega|(simp;done)|(simp;omega)
 ·try simp only[dc]at h10
  have hin : i = L.length := by omega
  rw [lyS_end o (by omega)] at hv
  refine .exit ?_
  refine hK3 _ ?_
  refine .sq fun K13 hK13 => ?_
  refine .q ?_ (by simp (disch := first|omega|(simp only[ln];omega)) [g5]; rfl)
  refine .c (t := o) (fun h25 => ?_) (fun h25 => ?_)
  ·try simp only[dc]at h25
   refine .q ?_
   refine .ret ?_
   exact hK _ _ _ _ trivial ((Fin.m).cast (by rw [hv, h25]; rfl))
  ·try simp only[dc]at h25
   refine .skip ?_
   refine hK13 _ ?_
   refine .q ?_
   refine .ret ?_
   exact hK _ _ _ _ trivial ((Fin.m).cast (by rw [hv, h25]; rfl))
end
section
attribute [local simp] Sp.av Sp.cells Sg.av Sg.cells Pt.av Pt.cells
set_option maxHeartbeats 4000000 in
theorem layerSideS_fc (L : List (List Sp)) (hl : L.length ≤ 1099511627776) (hl2 : ∀ r ∈ L, r.length ≤ 1099511627776) (p : Pt) (hp : p.ok) : FC Tryz.prog 28 [.isl (L.map rgC), p.av] (.int .i64 (lyV L p : Int)) := by
 refine .b Tryz.func28 17 (fun nx K hK => ?_) (hi := by simp [idfL, idf, idfLL_iff, rgC, Sp.cells, Pt.av, Pt.cells])
 refine .q ?_
 refine .sq fun K2 hK2 => ?_
 refine .sq fun K3 hK3 => ?_
 by_cases zl : (lyF L).1 = 0
 ·have hd : decide ((lyF L).1 = 0) = true := decide_eq_true zl
  cases gp : p.good
  ·refine .region ?_
   refine .kf 1 (l6Ok_fc L hl hl2) hb63 ?_ (by simp (disch := first|omega|(simp only[ln];omega)) [List.take_succ_cons, List.take_zero, hd, gp]; rfl) (ha := by simp (disch := first|omega|(simp only[ln];omega)) [idf_Wd', hd, gp])
   refine .kf 3 (pointOkS_fc p hp) hb32 ?_ (by simp (disch := first|omega|(simp only[ln];omega)) [List.take_succ_cons, List.take_zero, hd, gp]; rfl) (ha := by simp (disch := first|omega|(simp only[ln];omega)) [idf_Wd', hd, gp])
   refine .e ?_ (by simp (disch := first|omega|(simp only[ln];omega)) [hd, gp]; rfl)
   refine hK3 _ ?_
   refine .c (fun h12 => ?_) (fun h12 => ?_)
   ·try simp only[dc]at h12
    refine .q ?_
    refine .ret ?_
    exact hK _ _ _ _ trivial ((Fin.m).cast (by rw [lyV_np gp]))
   ·simp at h12
  ·refine .region ?_
   refine .kf 1 (l6Ok_fc L hl hl2) hb63 ?_ (by simp (disch := first|omega|(simp only[ln];omega)) [List.take_succ_cons, List.take_zero, hd, gp]; rfl) (ha := by simp (disch := first|omega|(simp only[ln];omega)) [idf_Wd', hd, gp])
   refine .kf 3 (pointOkS_fc p hp) hb32 ?_ (by simp (disch := first|omega|(simp only[ln];omega)) [List.take_succ_cons, List.take_zero, hd, gp]; rfl) (ha := by simp (disch := first|omega|(simp only[ln];omega)) [idf_Wd', hd, gp])
   refine .e ?_ (by simp (disch := first|omega|(simp only[ln];omega)) [hd, gp]; rfl)
   refine hK3 _ ?_
   refine .c (fun h12 => ?_) (fun h12 => ?_)
   ·simp at h12
   ·try simp only[dc]at h12
    obtain ⟨n6, n20, za, zap⟩ := lyF_ok zl
    have e : lyV L p = sdv (lyS p L false) := lyV_ok zl gp
    refine .skip ?_
    refine hK2 _ ?_
    refine .sq fun K5 hK5 => ?_
    refine .region ?_
    refine .kf 2 (l3Of_fc p hp) hb34 ?_
    refine .f (l6Side_fc L hl za p hp gp) hb71 ?_
    refine .e ?_
    refine hK5 _ ?_
    refine .ret ?_
    exact hK _ _ _ _ trivial ((Fin.m).cast (by rw [e]))
 ·have hd : decide ((lyF L).1 = 0) = false := decide_eq_false zl
  refine .region ?_
  refine .kf 1 (l6Ok_fc L hl hl2) hb63 ?_ (by simp (disch := first|omega|(simp only[ln];omega)) [List.take_succ_cons, List.take_zero, hd]; rfl) (ha := by simp (disch := first|omega|(simp only[ln];omega)) [idf_Wd', hd])
  refine .e ?_ (by simp (disch := first|omega|(simp only[ln];omega)) [hd]; rfl)
  refine hK3 _ ?_
  refine .c (fun h12 => ?_) (fun h12 => ?_)
  ·try simp only[dc]at h12
   refine .q ?_
   refine .ret ?_
   exact hK _ _ _ _ trivial ((Fin.m).cast (by rw [lyV_no zl]))
  ·simp at h12
end
section
attribute [local simp] Sp.av Sp.cells Sg.av Sg.cells
set_option maxHeartbeats 2000000 in
theorem depthI_fc (L : List (List Sp)) (ok : LyOk L) (i : Nat) (hi' : i < L.length) : FC Tryz.prog 68 [.isl (L.map rgC), .int .i64 (i : Int)] (.int .i64 (dpN L i)) := by
 refine .b Tryz.func68 30 (fun nx K hK => ?_) (hi := by simp [idfL, idf, idfLL_iff, rgC, Sp.cells])
 refine .q ?_
 refine .q ?_
 refine .sq fun K3 hK3 => ?_
 refine .q ?_ (by simp (disch := first|omega|(simp only[ln];omega)) [List.length_map]; rfl)
 refine .block ?_
 
 refine .loop (fun N s => ∃ k : Nat, N = L.length - k ∧ k ≤ L.length ∧ s.env 0 = .isl (L.map rgC) ∧ s.env 1 = .int .i64 (i : Int) ∧ s.env 5 = .int .i64 (dpS L i k) ∧ s.env 8 = .isl (L.map rgC) ∧ s.env 9 = .int .i64 (L.length : Int) ∧ s.env 10 = .int .i64 (k : Int) ∧ s.nt = 30) (L.length) (by refine ⟨0, by omega, by omega, ?_, ?_, ?_, ?_, ?_, ?_, rfl⟩ <;> first|(simp (disch := omega) [dpS];done)|omega|(simp;done)|(simp;omega)) ?_
 rintro N ⟨e, H, mm, nt⟩ ⟨k, rfl, hk, g0, g1, g5, g8, g9, g10, rfl⟩
 simp only [] at g0 g1 g5 g8 g9 g10
 refine .q ?_ (by simp (disch := first|omega|(simp only[ln];omega)) [g9, g10]; rfl)
 refine .sq fun K6 hK6 => ?_
 refine .c (fun h11 => ?_) (fun h11 => ?_)
 ·try simp only[dc]at h11
  have hk' : k < L.length := by omega
  have hat := gr_at hi'
  have hatk := gr_at hk'
  have hdb := dpS_b L i k
  have n6 := ok.len
  have ci := ringInI_fc (gr L i) (gr L k) (gr_ok ok.ok hi') (gr_ok ok.ok hk')
  refine .skip ?_
  refine hK6 _ ?_
  refine .sq fun K7 hK7 => ?_
  have J7 : ∀ s : St, (s.env 0 = .isl (L.map rgC) ∧ s.env 1 = .int .i64 (i : Int) ∧ s.env 5 = .int .i64 (dpS L i (k + 1)) ∧ s.env 8 = .isl (L.map rgC) ∧ s.env 9 = .int .i64 (L.length : Int) ∧ s.env 10 = .int .i64 (k : Int) ∧ s.nt = 30) → K7 s := by
   rintro ⟨e, H, mm, nt⟩ ⟨g0j, g1j, g5j, g8j, g9j, g10j, rfl⟩
   simp only [] at g0j g1j g5j g8j g9j g10j
   refine hK7 _ ?_
   refine .r ?_ (by simp (disch := first|omega|(simp only[ln];omega)) [g0j, g1j, g5j, g8j, g9j, g10j]; rfl)
   refine ⟨L.length - (k + 1), by omega, k + 1, rfl, by omega, ?_, ?_, ?_, ?_, ?_, ?_, rfl⟩ <;> first|(simp (disch := omega) [g0j, g1j, g5j, g8j, g9j, g10j];done)|omega|(simp;done)|(simp;omega)
  refine .block ?_
  refine .q ?_ (by simp (disch := first|omega|(simp only[ln];omega)) [if_pos, g8, g10, hatk, List.length_map]; rfl)
  refine .sq fun K9 hK9 => ?_
  by_cases q : k = i
  ·have c1 : ((k : Int) == (i : Int)) = true := by simp [q]
   have c2 : (k == i) = true := by simp [q]
   have hst : dpS L i (k + 1) = dpS L i k := by rw [dpS, if_neg (fun h => h.1 q)]; omega
   refine .df 11 ?_ (by simp (disch := first|omega|(simp only[ln];omega)) [runDf.eq_def, runF1, runF2, stepF.eq_def, updo.eq_def, hupo.eq_def, opSto1.eq_def, if_pos, g0, g1, g5, g8, g9, g10, bne, c1, c2, hat, hatk, hi', hk', q, List.length_map]; rfl)
   refine hK9 _ ?_
   refine .c (fun h25 => ?_) (fun h25 => ?_)
   ·simp at h25
   ·try simp only[dc]at h25
    refine .skip ?_
    refine J7 _ ?_
    refine ⟨?_, ?_, ?_, ?_, ?_, ?_, rfl⟩ <;> first|(simp (disch := omega) [g0, g1, g5, g8, g9, g10, hst];done)|omega|(simp;done)|(simp;omega)
  ·have c1 : ((k : Int) == (i : Int)) = false := by simp; omega
   have c2 : (k == i) = false := by simp; omega
   rw [rgI_wi ok hi' hk' q] at ci
   refine .d 11 ?_
   refine .k 9 (fun fs10 hfs10 => ?_) (by simp (disch := first|omega|(simp only[ln];omega)) [runDf.eq_def, runF1, runF2, stepF.eq_def, updo.eq_def, hupo.eq_def, opSto1.eq_def, List.take_succ_cons, List.take_zero, if_pos, g0, g1, g5, g8, g9, g10, bne, c1, c2, hat, hatk, hi', hk', q, List.length_map]; rfl)
   refine .f ci hb121 ?_ (ha := by simp (disch := first|omega|(simp only[ln];omega)) [idf_Wd', if_pos, g0, g1, g5, g8, g9, g10, bne, c1, c2, hat, hatk, hi', hk', q, List.length_map])
   refine .k 1 (fun fs11 hfs11 => ?_) (by simp (disch := first|omega|(simp only[ln];omega)) [runDf.eq_def, runF1, runF2, stepF.eq_def, updo.eq_def, hupo.eq_def, opSto1.eq_def, List.take_succ_cons, List.take_zero, if_pos, g0, g1, g5, g8, g9, g10, bne, c1, c2, hat, hatk, hi', hk', q, List.length_map]; rfl)
   refine .r 11 (by simp only[ln, hfs10, hfs11];omega) ?_ (by simp (disch := first|omega|(simp only[ln];omega)) [runDf.eq_def, runF1, runF2, stepF.eq_def, updo.eq_def, hupo.eq_def, opSto1.eq_def, if_pos, g0, g1, g5, g8, g9, g10, bne, c1, c2, hat, hatk, hi', hk', q, List.length_map]; rfl)
   refine hK9 _ ?_
   refine .c (t := wiB (gr L i) (gr L k)) (fun h25 => ?_) (fun h25 => ?_)
   ·try simp only[dc]at h25
    have hst : dpS L i (k + 1) = dpS L i k + 1 := by rw [dpS, if_pos ⟨q, h25⟩]
    refine .r ?_ (by simp (disch := first|omega|(simp only[ln];omega)) [hst, g0, g1, g5, g8, g9, g10]; rfl)
    refine J7 _ ?_
    refine ⟨?_, ?_, ?_, ?_, ?_, ?_, rfl⟩ <;> first|(simp (disch := omega) [g0, g1, g5, g8, g9, g10, hst];done)|omega|(simp;done)|(simp;omega)
   ·try simp only[dc]at h25
    have hst : dpS L i (k + 1) = dpS L i k := by rw [dpS, if_neg (fun h => by rw [h25] at h; simp at h)]; omega
    refine .skip ?_
    refine J7 _ ?_
    refine ⟨?_, ?_, ?_, ?_, ?_, ?_, rfl⟩ <;> first|(simp (disch := omega) [g0, g1, g5, g8, g9, g10, hst];done)|omega|(simp;done)|(simp;omega)
 ·try simp only[dc]at h11
  have hin : k = L.length := by omega
  subst hin
  refine .exit ?_
  refine hK3 _ ?_
  refine .q ?_ (by simp (disch := first|omega|(simp only[ln];omega)) [g5]; rfl)
  refine .ret ?_
  exact hK _ _ _ _ trivial ((Fin.m).cast (by rfl))
set_option maxHeartbeats 2000000 in
theorem l6Depth_fc (L : List (List Sp)) (ok : LyOk L) (i : Nat) (hi' : i < L.length) : FC Tryz.prog 65 [.isl (L.map rgC), .int .i64 (i : Int)] (.int .i64 (dpN L i)) := by
 refine .b Tryz.func65 30 (fun nx K hK => ?_) (hi := by simp [idfL, idf, idfLL_iff, rgC, Sp.cells])
 refine .q ?_
 refine .q ?_
 refine .sq fun K3 hK3 => ?_
 refine .q ?_
 refine .block ?_
 
 refine .loop (fun N s => ∃ k : Nat, N = L.length - k ∧ k ≤ L.length ∧ s.env 0 = .isl (L.map rgC) ∧ s.env 1 = .int .i64 (i : Int) ∧ s.env 5 = .int .i64 (dpS L i k) ∧ s.env 6 = .int .i64 (k : Int) ∧ s.nt = 30) (L.length) (by refine ⟨0, by omega, by omega, ?_, ?_, ?_, ?_, rfl⟩ <;> first|(simp (disch := omega) [dpS];done)|omega|(simp;done)|(simp;omega)) ?_
 rintro N ⟨e, H, mm, nt⟩ ⟨k, rfl, hk, g0, g1, g5, g6, rfl⟩
 simp only [] at g0 g1 g5 g6
 refine .sq fun K5 hK5 => ?_
 refine .q ?_ (by simp (disch := first|omega|(simp only[ln];omega)) [g0, g6, List.length_map]; rfl)
 refine .c (fun h10 => ?_) (fun h10 => ?_)
 ·try simp only[dc]at h10
  have hk' : k < L.length := by omega
  have hat := gr_at hi'
  have hatk := gr_at hk'
  have hdb := dpS_b L i k
  have n6 := ok.len
  have ci := l5Within_fc (gr L i) (gr L k) (gr_ok ok.ok hi') (gr_ok ok.ok hk')
  refine .skip ?_
  refine hK5 _ ?_
  refine .sq fun K7 hK7 => ?_
  have J7 : ∀ s : St, (s.env 0 = .isl (L.map rgC) ∧ s.env 1 = .int .i64 (i : Int) ∧ s.env 5 = .int .i64 (dpS L i (k + 1)) ∧ s.env 6 = .int .i64 (k : Int) ∧ s.nt = 30) → K7 s := by
   rintro ⟨e, H, mm, nt⟩ ⟨g0j, g1j, g5j, g6j, rfl⟩
   simp only [] at g0j g1j g5j g6j
   refine hK7 _ ?_
   refine .r ?_ (by simp (disch := first|omega|(simp only[ln];omega)) [g0j, g1j, g5j, g6j]; rfl)
   refine ⟨L.length - (k + 1), by omega, k + 1, rfl, by omega, ?_, ?_, ?_, ?_, rfl⟩ <;> first|(simp (disch := omega) [g0j, g1j, g5j, g6j];done)|omega|(simp;done)|(simp;omega)
  refine .block ?_
  refine .sq fun K8 hK8 => ?_
  by_cases q : k = i
  ·have c1 : ((k : Int) == (i : Int)) = true := by simp [q]
   have c2 : (k == i) = true := by simp [q]
   have hst : dpS L i (k + 1) = dpS L i k := by rw [dpS, if_neg (fun h => h.1 q)]; omega
   refine .df 14 ?_ (by simp (disch := first|omega|(simp only[ln];omega)) [runDf.eq_def, runF1, runF2, stepF.eq_def, updo.eq_def, hupo.eq_def, opSto1.eq_def, if_pos, g0, g1, g5, g6, bne, c1, c2, hat, hatk, hi', hk', q, List.length_map]; rfl)
   refine hK8 _ ?_
   refine .c (fun h26 => ?_) (fun h26 => ?_)
   ·simp at h26
   ·try simp only[dc]at h26
    refine .skip ?_
    refine J7 _ ?_
    refine ⟨?_, ?_, ?_, ?_, rfl⟩ <;> first|(simp (disch := omega) [g0, g1, g5, g6, hst];done)|omega|(simp;done)|(simp;omega)
  ·have c1 : ((k : Int) == (i : Int)) = false := by simp; omega
   have c2 : (k == i) = false := by simp; omega
   refine .d 14 ?_
   refine .k 12 (fun fs9 hfs9 => ?_) (by simp (disch := first|omega|(simp only[ln];omega)) [runDf.eq_def, runF1, runF2, stepF.eq_def, updo.eq_def, hupo.eq_def, opSto1.eq_def, List.take_succ_cons, List.take_zero, if_pos, g0, g1, g5, g6, bne, c1, c2, hat, hatk, hi', hk', q, List.length_map]; rfl)
   refine .f ci hb119 ?_ (ha := by simp (disch := first|omega|(simp only[ln];omega)) [idf_Wd', if_pos, g0, g1, g5, g6, bne, c1, c2, hat, hatk, hi', hk', q, List.length_map])
   refine .k 1 (fun fs10 hfs10 => ?_) (by simp (disch := first|omega|(simp only[ln];omega)) [runDf.eq_def, runF1, runF2, stepF.eq_def, updo.eq_def, hupo.eq_def, opSto1.eq_def, List.take_succ_cons, List.take_zero, if_pos, g0, g1, g5, g6, bne, c1, c2, hat, hatk, hi', hk', q, List.length_map]; rfl)
   refine .r 14 (by simp only[ln, hfs9, hfs10];omega) ?_ (by simp (disch := first|omega|(simp only[ln];omega)) [runDf.eq_def, runF1, runF2, stepF.eq_def, updo.eq_def, hupo.eq_def, opSto1.eq_def, if_pos, g0, g1, g5, g6, bne, c1, c2, hat, hatk, hi', hk', q, List.length_map]; rfl)
   refine hK8 _ ?_
   refine .c (t := wiB (gr L i) (gr L k)) (fun h26 => ?_) (fun h26 => ?_)
   ·try simp only[dc]at h26
    have hst : dpS L i (k + 1) = dpS L i k + 1 := by rw [dpS, if_pos ⟨q, h26⟩]
    refine .r ?_ (by simp (disch := first|omega|(simp only[ln];omega)) [hst, g0, g1, g5, g6]; rfl)
    refine J7 _ ?_
    refine ⟨?_, ?_, ?_, ?_, rfl⟩ <;> first|(simp (disch := omega) [g0, g1, g5, g6, hst];done)|omega|(simp;done)|(simp;omega)
   ·try simp only[dc]at h26
    have hst : dpS L i (k + 1) = dpS L i k := by rw [dpS, if_neg (fun h => by rw [h26] at h; simp at h)]; omega
    refine .skip ?_
    refine J7 _ ?_
    refine ⟨?_, ?_, ?_, ?_, rfl⟩ <;> first|(simp (disch := omega) [g0, g1, g5, g6, hst];done)|omega|(simp;done)|(simp;omega)
 ·try simp only[dc]at h10
  have hin : k = L.length := by omega
  subst hin
  refine .exit ?_
  refine hK3 _ ?_
  refine .q ?_ (by simp (disch := first|omega|(simp only[ln];omega)) [g5]; rfl)
  refine .ret ?_
  exact hK _ _ _ _ trivial ((Fin.m).cast (by rfl))
set_option maxHeartbeats 2000000 in
theorem depthOfI_fc (L : List (List Sp)) (hl : L.length ≤ 1099511627776) (hl2 : ∀ r ∈ L, r.length ≤ 1099511627776) (i : Int) (i0 : -9223372036854775808 ≤ i) (i1 : i ≤ 9223372036854775807) : FC Tryz.prog 24 [.isl (L.map rgC), .int .i64 i] (.int .i64 (dpF L i)) := by
 refine .b Tryz.func24 19 (fun nx K hK => ?_) (hi := by simp [idfL, idf, idfLL_iff, rgC, Sp.cells])
 refine .q ?_
 refine .sq fun K2 hK2 => ?_
 refine .sq fun K3 hK3 => ?_
 by_cases zl : (lyF L).1 = 0
 ·have hd : decide ((lyF L).1 = 0) = true := decide_eq_true zl
  refine .region ?_
  refine .kf 1 (isLayer_fc L hl hl2) hb66 ?_ (by simp (disch := first|omega|(simp only[ln];omega)) [List.take_succ_cons, List.take_zero, hd, List.length_map]; rfl) (ha := by simp (disch := first|omega|(simp only[ln];omega)) [idf_Wd', hd, List.length_map])
  refine .kf 6 (within_fc i 0 ((L.length : Int) - 1)) hb67 ?_ (by simp (disch := first|omega|(simp only[ln];omega)) [List.take_succ_cons, List.take_zero, hd, List.length_map]; rfl) (ha := by simp (disch := first|omega|(simp only[ln];omega)) [idf_Wd', hd, List.length_map])
  refine .e ?_ (by simp (disch := first|omega|(simp only[ln];omega)) [hd, List.length_map]; rfl)
  refine hK3 _ ?_
  refine .c (t := !(decide (0 ≤ i) && decide (i ≤ (L.length : Int) - 1))) (fun h15 => ?_) (fun h15 => ?_)
  ·try simp only[dc]at h15
   have hn : ¬ (0 ≤ i ∧ i ≤ (L.length : Int) - 1) := by simp at h15; omega
   refine .q ?_
   refine .ret ?_
   exact hK _ _ _ _ trivial ((Fin.m).cast (by unfold dpF; rw [if_pos zl, if_neg hn]))
  ·try simp only[dc]at h15
   have hn : 0 ≤ i ∧ i ≤ (L.length : Int) - 1 := by simp at h15; omega
   obtain ⟨k, rfl⟩ : ∃ k : Nat, i = (k : Int) := ⟨i.toNat, by omega⟩
   have cd := depthI_fc L (lyF_ok zl) k (by omega)
   refine .skip ?_
   refine hK2 _ ?_
   refine .sq fun K5 hK5 => ?_
   refine .region ?_
   refine .kf 2 cd hb68 ?_
   refine .e ?_
   refine hK5 _ ?_
   refine .ret ?_
   exact hK _ _ _ _ trivial ((Fin.m).cast (by unfold dpF; rw [if_pos zl, if_pos hn]; rfl))
 ·have hd : decide ((lyF L).1 = 0) = false := decide_eq_false zl
  refine .region ?_
  refine .kf 1 (isLayer_fc L hl hl2) hb66 ?_ (by simp (disch := first|omega|(simp only[ln];omega)) [List.take_succ_cons, List.take_zero, hd]; rfl) (ha := by simp (disch := first|omega|(simp only[ln];omega)) [idf_Wd', hd])
  refine .e ?_ (by simp (disch := first|omega|(simp only[ln];omega)) [hd]; rfl)
  refine hK3 _ ?_
  refine .c (fun h15 => ?_) (fun h15 => ?_)
  ·try simp only[dc]at h15
   refine .q ?_
   refine .ret ?_
   exact hK _ _ _ _ trivial ((Fin.m).cast (by unfold dpF; rw [if_neg zl]))
  ·simp at h15
set_option maxHeartbeats 2000000 in
theorem depthOfS_fc (L : List (List Sp)) (hl : L.length ≤ 1099511627776) (hl2 : ∀ r ∈ L, r.length ≤ 1099511627776) (i : Int) (i0 : -9223372036854775808 ≤ i) (i1 : i ≤ 9223372036854775807) : FC Tryz.prog 22 [.isl (L.map rgC), .int .i64 i] (.int .i64 (dpF L i)) := by
 refine .b Tryz.func22 19 (fun nx K hK => ?_) (hi := by simp [idfL, idf, idfLL_iff, rgC, Sp.cells])
 refine .q ?_
 refine .sq fun K2 hK2 => ?_
 refine .sq fun K3 hK3 => ?_
 by_cases zl : (lyF L).1 = 0
 ·have hd : decide ((lyF L).1 = 0) = true := decide_eq_true zl
  refine .region ?_
  refine .kf 1 (l6Ok_fc L hl hl2) hb63 ?_ (by simp (disch := first|omega|(simp only[ln];omega)) [List.take_succ_cons, List.take_zero, hd, List.length_map]; rfl) (ha := by simp (disch := first|omega|(simp only[ln];omega)) [idf_Wd', hd, List.length_map])
  refine .kf 6 (l1In_fc i 0 ((L.length : Int) - 1)) hb64 ?_ (by simp (disch := first|omega|(simp only[ln];omega)) [List.take_succ_cons, List.take_zero, hd, List.length_map]; rfl) (ha := by simp (disch := first|omega|(simp only[ln];omega)) [idf_Wd', hd, List.length_map])
  refine .e ?_ (by simp (disch := first|omega|(simp only[ln];omega)) [hd, List.length_map]; rfl)
  refine hK3 _ ?_
  refine .c (t := !(decide (0 ≤ i) && decide (i ≤ (L.length : Int) - 1))) (fun h15 => ?_) (fun h15 => ?_)
  ·try simp only[dc]at h15
   have hn : ¬ (0 ≤ i ∧ i ≤ (L.length : Int) - 1) := by simp at h15; omega
   refine .q ?_
   refine .ret ?_
   exact hK _ _ _ _ trivial ((Fin.m).cast (by unfold dpF; rw [if_pos zl, if_neg hn]))
  ·try simp only[dc]at h15
   have hn : 0 ≤ i ∧ i ≤ (L.length : Int) - 1 := by simp at h15; omega
   obtain ⟨k, rfl⟩ : ∃ k : Nat, i = (k : Int) := ⟨i.toNat, by omega⟩
   have cd := l6Depth_fc L (lyF_ok zl) k (by omega)
   refine .skip ?_
   refine hK2 _ ?_
   refine .sq fun K5 hK5 => ?_
   refine .region ?_
   refine .kf 2 cd hb65 ?_
   refine .e ?_
   refine hK5 _ ?_
   refine .ret ?_
   exact hK _ _ _ _ trivial ((Fin.m).cast (by unfold dpF; rw [if_pos zl, if_pos hn]; rfl))
 ·have hd : decide ((lyF L).1 = 0) = false := decide_eq_false zl
  refine .region ?_
  refine .kf 1 (l6Ok_fc L hl hl2) hb63 ?_ (by simp (disch := first|omega|(simp only[ln];omega)) [List.take_succ_cons, List.take_zero, hd]; rfl) (ha := by simp (disch := first|omega|(simp only[ln];omega)) [idf_Wd', hd])
  refine .e ?_ (by simp (disch := first|omega|(simp only[ln];omega)) [hd]; rfl)
  refine hK3 _ ?_
  refine .c (fun h15 => ?_) (fun h15 => ?_)
  ·try simp only[dc]at h15
   refine .q ?_
   refine .ret ?_
   exact hK _ _ _ _ trivial ((Fin.m).cast (by unfold dpF; rw [if_neg zl]))
  ·simp at h15
end

end Go.Proofs.YtdcajfgeleopiaaGreat

/- Walks: areas of layers; FnExactLayerSide, FnExactDepthOf, FnExactLayerArea2, FnExactRingSide, walked. -/
namespace Go.Proofs.YtdcajfgeleopiaaGreat
open Go Go.RowKit
set_option linter.unusedSimpArgs false
set_option linter.unusedVariables false
set_option maxRecDepth 100000
attribute [local simp] szT2 byT2 agT2 unT2 zoT2 szT3 byT3 agT3 unT3 zoT3 szT22 byT22 agT22 elT22 unT22 zoT22 szT24 byT24 agT24 flT24 fdT24_0 zoT24 szT27 byT27 agT27 flT27 fdT27_0 fdT27_1 fdT27_2 fdT27_3 zoT27 szT29 byT29 agT29 flT29 fdT29_0 fdT29_1 fdT29_2 zoT29 szT32 byT32 agT32 elT32 unT32 zoT32 szT34 byT34 agT34 flT34 fdT34_0 zoT34 szT36 byT36 agT36 flT36 fdT36_0 fdT36_1 fdT36_2 fdT36_3 zoT36 szT38 byT38 agT38 flT38 fdT38_0 fdT38_1 fdT38_2 zoT38 szT59 byT59 agT59 elT59 unT59 zoT59

section
attribute [local simp] Sp.av Sp.cells Sg.av Sg.cells
set_option maxHeartbeats 4000000 in
theorem layerArea2I_fc (L : List (List Sp)) (hl : L.length ≤ 1099511627776) (hl2 : ∀ r ∈ L, r.length ≤ 1099511627776) : FC Tryz.prog 27 [.isl (L.map rgC)] (.int .i64 (lyAr L)) := by
 refine .b Tryz.func27 35 (fun nx K hK => ?_) (hi := by simp [idfL, idf, idfLL_iff, rgC, Sp.cells])
 refine .q ?_
 refine .q ?_
 refine .sq fun K3 hK3 => ?_
 refine .sq fun K4 hK4 => ?_
 by_cases zl : (lyF L).1 = 0
 ·have hd : decide ((lyF L).1 = 0) = true := decide_eq_true zl
  have ok := lyF_ok zl
  have eA : lyAr L = lyR L L.length := by unfold lyAr; rw [if_pos zl]
  refine .region ?_
  refine .kf 1 (isLayer_fc L hl hl2) hb66 ?_ (by simp (disch := first|omega|(simp only[ln];omega)) [List.take_succ_cons, List.take_zero, hd]; rfl) (ha := by simp (disch := first|omega|(simp only[ln];omega)) [idf_Wd', hd])
  refine .e ?_ (by simp (disch := first|omega|(simp only[ln];omega)) [hd]; rfl)
  refine hK4 _ ?_
  refine .c (fun h9 => ?_) (fun h9 => ?_)
  ·simp at h9
  ·try simp only[dc]at h9
   refine .skip ?_
   refine hK3 _ ?_
   refine .sq fun K5 hK5 => ?_
   refine .q ?_ (by simp (disch := first|omega|(simp only[ln];omega)) [List.length_map]; rfl)
   refine .block ?_
   
   refine .loop (fun N s => ∃ i : Nat, N = L.length - i ∧ i ≤ L.length ∧ s.env 0 = .isl (L.map rgC) ∧ s.env 3 = .int .i64 (lyR L i) ∧ s.env 10 = .isl (L.map rgC) ∧ s.env 11 = .int .i64 (L.length : Int) ∧ s.env 12 = .int .i64 (i : Int) ∧ s.nt = 35) (L.length) (by refine ⟨0, by omega, by omega, ?_, ?_, ?_, ?_, ?_, rfl⟩ <;> first|(simp (disch := omega) [lyR];done)|omega|(simp;done)|(simp;omega)) ?_
   rintro N ⟨e, H, mm, nt⟩ ⟨i, rfl, hi, g0, g3, g10, g11, g12, rfl⟩
   simp only [] at g0 g3 g10 g11 g12
   refine .q ?_ (by simp (disch := first|omega|(simp only[ln];omega)) [g11, g12]; rfl)
   refine .sq fun K8 hK8 => ?_
   refine .c (fun h13 => ?_) (fun h13 => ?_)
   ·try simp only[dc]at h13
    have hi' : i < L.length := by omega
    have hat := gr_at hi'
    have hlr := hl2 _ (gr_mem hi')
    have hrz := gr_ok ok.ok hi'
    obtain ⟨w1, w12, w3, w4, _⟩ := rgF_zero hrz
    have ab := area_b hrz
    have rb := lyR_b ok i hi
    have rb2 := lyR_b ok (i + 1) hi'
    have n6 := ok.len
    have hst : lyR L (i + 1) = lyR L i + lyT L i := rfl
    have hT := lyT_eq L i
    have db := dpS_b L i L.length
    rw [show dpS L i L.length = dpN L i from rfl] at db
    have htm := tmod2 db.1
    have cd := depthI_fc L ok i hi'
    have ca := area2I_fc (gr L i) w3 w12
    generalize area (gr L i) = A at *
    have hmx : (if A < -A then -A else A) = ((A.natAbs : Nat) : Int) := by split <;> omega
    generalize dpN L i = D at *
    refine .skip ?_
    refine hK8 _ ?_
    refine .sq fun K9 hK9 => ?_
    refine .block ?_
    refine .q ?_ (by simp (disch := first|omega|(simp only[ln];omega)) [if_pos, g10, g12, hat, List.length_map]; rfl)
    refine .sq fun K11 hK11 => ?_
    refine .d 6 ?_
    refine .k 1 (fun fs12 hfs12 => ?_) (by simp (disch := first|omega|(simp only[ln];omega)) [runDf.eq_def, runF1, runF2, stepF.eq_def, updo.eq_def, hupo.eq_def, opSto1.eq_def, List.take_succ_cons, List.take_zero, hmx]; rfl)
    refine .f ca hb70 ?_ (ha := by simp (disch := first|omega|(simp only[ln];omega)) [idf_Wd', hmx])
    refine .k 1 (fun fs13 hfs13 => ?_) (by simp (disch := first|omega|(simp only[ln];omega)) [runDf.eq_def, runF1, runF2, stepF.eq_def, updo.eq_def, hupo.eq_def, opSto1.eq_def, List.take_succ_cons, List.take_zero, hmx]; rfl)
    refine .f ca hb70 ?_ (ha := by simp (disch := first|omega|(simp only[ln];omega)) [idf_Wd', hmx])
    refine .k 2 (fun fs14 hfs14 => ?_) (by simp (disch := first|omega|(simp only[ln];omega)) [runDf.eq_def, runF1, runF2, stepF.eq_def, updo.eq_def, hupo.eq_def, opSto1.eq_def, List.take_succ_cons, List.take_zero, hmx]; rfl)
    refine .r 6 (by simp only[ln, hfs12, hfs13, hfs14];omega) ?_ (by simp (disch := first|omega|(simp only[ln];omega)) [runDf.eq_def, runF1, runF2, stepF.eq_def, updo.eq_def, hupo.eq_def, opSto1.eq_def, hmx]; rfl)
    refine hK11 _ ?_
    refine .sq fun K15 hK15 => ?_
    have J15 : ∀ s : St, (s.env 0 = .isl (L.map rgC) ∧ s.env 3 = .int .i64 (lyR L i) ∧ s.env 6 = .int .i64 (lyT L i) ∧ s.env 10 = .isl (L.map rgC) ∧ s.env 11 = .int .i64 (L.length : Int) ∧ s.env 12 = .int .i64 (i : Int) ∧ s.nt = 35) → K15 s := by
     rintro ⟨e, H, mm, nt⟩ ⟨g0j, g3j, g6j, g10j, g11j, g12j, rfl⟩
     simp only [] at g0j g3j g6j g10j g11j g12j
     refine hK15 _ ?_
     refine .r ?_ (by simp (disch := first|omega|(simp only[ln];omega)) [g0j, g3j, g6j, g10j, g11j, g12j]; rfl)
     refine hK9 _ ?_
     refine .r ?_ (by simp (disch := first|omega|(simp only[ln];omega)) [g0j, g3j, g6j, g10j, g11j, g12j]; rfl)
     refine ⟨L.length - (i + 1), by omega, i + 1, rfl, by omega, ?_, ?_, ?_, ?_, ?_, rfl⟩ <;> first|(simp (disch := omega) [g0j, g3j, g6j, g10j, g11j, g12j, hst];done)|omega|(simp;done)|(simp;omega)
    refine .sq fun K16 hK16 => ?_
    refine .region ?_
    refine .kf 2 cd hb68 ?_ (by simp (disch := first|omega|(simp only[ln];omega)) [List.take_succ_cons, List.take_zero, g0, htm]; rfl) (ha := by simp (disch := first|omega|(simp only[ln];omega)) [idf_Wd', g0, htm])
    refine .e ?_ (by simp (disch := first|omega|(simp only[ln];omega)) [g0, htm]; rfl)
    refine hK16 _ ?_
    refine .c (t := D % 2 == 1) (fun h27 => ?_) (fun h27 => ?_)
    ·try simp only[dc]at h27
     have d1 : D % 2 = 1 := by simpa using h27
     refine .r ?_
     refine J15 _ ?_
     refine ⟨?_, ?_, ?_, ?_, ?_, ?_, rfl⟩ <;> first|(simp (disch := omega) [g0, g3, g10, g11, g12];done)|(rw [hT, if_pos d1];simp (disch := omega) [g0, g3, g10, g11, g12];done)|(rw [hT, if_neg d1];simp (disch := omega) [g0, g3, g10, g11, g12];done)|omega|(simp;done)|(simp;omega)
    ·try simp only[dc]at h27
     have d1 : ¬ D % 2 = 1 := by simpa using h27
     refine .skip ?_
     refine J15 _ ?_
     refine ⟨?_, ?_, ?_, ?_, ?_, ?_, rfl⟩ <;> first|(simp (disch := omega) [g0, g3, g10, g11, g12];done)|(rw [hT, if_pos d1];simp (disch := omega) [g0, g3, g10, g11, g12];done)|(rw [hT, if_neg d1];simp (disch := omega) [g0, g3, g10, g11, g12];done)|omega|(simp;done)|(simp;omega)
   ·try simp only[dc]at h13
    have hin : i = L.length := by omega
    subst hin
    refine .exit ?_
    refine hK5 _ ?_
    refine .q ?_ (by simp (disch := first|omega|(simp only[ln];omega)) [g3]; rfl)
    refine .ret ?_
    exact hK _ _ _ _ trivial ((Fin.m).cast (by rw [eA]))
 ·have hd : decide ((lyF L).1 = 0) = false := decide_eq_false zl
  refine .region ?_
  refine .kf 1 (isLayer_fc L hl hl2) hb66 ?_ (by simp (disch := first|omega|(simp only[ln];omega)) [List.take_succ_cons, List.take_zero, hd]; rfl) (ha := by simp (disch := first|omega|(simp only[ln];omega)) [idf_Wd', hd])
  refine .e ?_ (by simp (disch := first|omega|(simp only[ln];omega)) [hd]; rfl)
  refine hK4 _ ?_
  refine .c (fun h9 => ?_) (fun h9 => ?_)
  ·try simp only[dc]at h9
   refine .q ?_
   refine .ret ?_
   exact hK _ _ _ _ trivial ((Fin.m).cast (by unfold lyAr; rw [if_neg zl]))
  ·simp at h9
set_option maxHeartbeats 4000000 in
theorem layerArea2S_fc (L : List (List Sp)) (hl : L.length ≤ 1099511627776) (hl2 : ∀ r ∈ L, r.length ≤ 1099511627776) : FC Tryz.prog 26 [.isl (L.map rgC)] (.int .i64 (lyAr L)) := by
 refine .b Tryz.func26 35 (fun nx K hK => ?_) (hi := by simp [idfL, idf, idfLL_iff, rgC, Sp.cells])
 refine .q ?_
 refine .sq fun K2 hK2 => ?_
 refine .sq fun K3 hK3 => ?_
 by_cases zl : (lyF L).1 = 0
 ·have hd : decide ((lyF L).1 = 0) = true := decide_eq_true zl
  have ok := lyF_ok zl
  have eA : lyAr L = lyR L L.length := by unfold lyAr; rw [if_pos zl]
  refine .region ?_
  refine .kf 1 (l6Ok_fc L hl hl2) hb63 ?_ (by simp (disch := first|omega|(simp only[ln];omega)) [List.take_succ_cons, List.take_zero, hd]; rfl) (ha := by simp (disch := first|omega|(simp only[ln];omega)) [idf_Wd', hd])
  refine .e ?_ (by simp (disch := first|omega|(simp only[ln];omega)) [hd]; rfl)
  refine hK3 _ ?_
  refine .c (fun h8 => ?_) (fun h8 => ?_)
  ·simp at h8
  ·try simp only[dc]at h8
   refine .skip ?_
   refine hK2 _ ?_
   refine .q ?_
   refine .sq fun K5 hK5 => ?_
   refine .q ?_
   refine .block ?_
   
   refine .loop (fun N s => ∃ i : Nat, N = L.length - i ∧ i ≤ L.length ∧ s.env 0 = .isl (L.map rgC) ∧ s.env 3 = .int .i64 (lyR L i) ∧ s.env 4 = .int .i64 (i : Int) ∧ s.nt = 35) (L.length) (by refine ⟨0, by omega, by omega, ?_, ?_, ?_, rfl⟩ <;> first|(simp (disch := omega) [lyR];done)|omega|(simp;done)|(simp;omega)) ?_
   rintro N ⟨e, H, mm, nt⟩ ⟨i, rfl, hi, g0, g3, g4, rfl⟩
   simp only [] at g0 g3 g4
   refine .sq fun K7 hK7 => ?_
   refine .q ?_ (by simp (disch := first|omega|(simp only[ln];omega)) [g0, g4, List.length_map]; rfl)
   refine .c (fun h12 => ?_) (fun h12 => ?_)
   ·try simp only[dc]at h12
    have hi' : i < L.length := by omega
    have hat := gr_at hi'
    have hlr := hl2 _ (gr_mem hi')
    have hrz := gr_ok ok.ok hi'
    obtain ⟨w1, w12, w3, w4, _⟩ := rgF_zero hrz
    have ab := area_b hrz
    have rb := lyR_b ok i hi
    have rb2 := lyR_b ok (i + 1) hi'
    have n6 := ok.len
    have hst : lyR L (i + 1) = lyR L i + lyT L i := rfl
    have hT := lyT_eq L i
    have db := dpS_b L i L.length
    rw [show dpS L i L.length = dpN L i from rfl] at db
    have htm := tmod2 db.1
    have cd := l6Depth_fc L ok i hi'
    have ca := area2S_fc (gr L i) w3 w12
    generalize area (gr L i) = A at *
    have hmx : (if A < -A then -A else A) = ((A.natAbs : Nat) : Int) := by split <;> omega
    generalize dpN L i = D at *
    refine .skip ?_
    refine hK7 _ ?_
    refine .sq fun K9 hK9 => ?_
    refine .block ?_
    refine .sq fun K10 hK10 => ?_
    refine .region ?_
    refine .kf 4 ca hb69 ?_ (by simp (disch := first|omega|(simp only[ln];omega)) [List.take_succ_cons, List.take_zero, if_pos, g0, g4, hat, List.length_map]; rfl) (ha := by simp (disch := first|omega|(simp only[ln];omega)) [idf_Wd', if_pos, g0, g4, hat, List.length_map])
    refine .e ?_ (by simp (disch := first|omega|(simp only[ln];omega)) [if_pos, g0, g4, hat, List.length_map]; rfl)
    refine hK10 _ ?_
    refine .sq fun K11 hK11 => ?_
    have J11 : ∀ s : St, (s.env 0 = .isl (L.map rgC) ∧ s.env 3 = .int .i64 (lyR L i) ∧ s.env 4 = .int .i64 (i : Int) ∧ s.env 5 = .int .i64 ((A.natAbs : Nat) : Int) ∧ s.nt = 35) → K11 s := by
     rintro ⟨e, H, mm, nt⟩ ⟨g0a, g3a, g4a, g5a, rfl⟩
     simp only [] at g0a g3a g4a g5a
     refine hK11 _ ?_
     refine .sq fun K12 hK12 => ?_
     have J12 : ∀ s : St, (s.env 0 = .isl (L.map rgC) ∧ s.env 3 = .int .i64 (lyR L i) ∧ s.env 4 = .int .i64 (i : Int) ∧ s.env 5 = .int .i64 (lyT L i) ∧ s.nt = 35) → K12 s := by
      rintro ⟨e, H, mm, nt⟩ ⟨g0j, g3j, g4j, g5j, rfl⟩
      simp only [] at g0j g3j g4j g5j
      refine hK12 _ ?_
      refine .r ?_ (by simp (disch := first|omega|(simp only[ln];omega)) [g0j, g3j, g4j, g5j]; rfl)
      refine hK9 _ ?_
      refine .r ?_ (by simp (disch := first|omega|(simp only[ln];omega)) [g0j, g3j, g4j, g5j]; rfl)
      refine ⟨L.length - (i + 1), by omega, i + 1, rfl, by omega, ?_, ?_, ?_, rfl⟩ <;> first|(simp (disch := omega) [g0j, g3j, g4j, g5j, hst];done)|omega|(simp;done)|(simp;omega)
     refine .sq fun K13 hK13 => ?_
     refine .region ?_
     refine .kf 2 cd hb65 ?_ (by simp (disch := first|omega|(simp only[ln];omega)) [List.take_succ_cons, List.take_zero, g0a, g3a, g4a, g5a, htm]; rfl) (ha := by simp (disch := first|omega|(simp only[ln];omega)) [idf_Wd', g0a, g3a, g4a, g5a, htm])
     refine .e ?_ (by simp (disch := first|omega|(simp only[ln];omega)) [g0a, g3a, g4a, g5a, htm]; rfl)
     refine hK13 _ ?_
     refine .c (t := D % 2 == 1) (fun h28 => ?_) (fun h28 => ?_)
     ·try simp only[dc]at h28
      have d1 : D % 2 = 1 := by simpa using h28
      refine .r ?_ (by simp (disch := first|omega|(simp only[ln];omega)) [g0a, g3a, g4a, g5a]; rfl)
      refine J12 _ ?_
      refine ⟨?_, ?_, ?_, ?_, rfl⟩ <;> first|(simp (disch := omega) [g0a, g3a, g4a, g5a];done)|(rw [hT, if_pos d1];simp (disch := omega) [g0a, g3a, g4a, g5a];done)|(rw [hT, if_neg d1];simp (disch := omega) [g0a, g3a, g4a, g5a];done)|omega|(simp;done)|(simp;omega)
     ·try simp only[dc]at h28
      have d1 : ¬ D % 2 = 1 := by simpa using h28
      refine .skip ?_
      refine J12 _ ?_
      refine ⟨?_, ?_, ?_, ?_, rfl⟩ <;> first|(simp (disch := omega) [g0a, g3a, g4a, g5a];done)|(rw [hT, if_pos d1];simp (disch := omega) [g0a, g3a, g4a, g5a];done)|(rw [hT, if_neg d1];simp (disch := omega) [g0a, g3a, g4a, g5a];done)|omega|(simp;done)|(simp;omega)
    refine .q ?_
    refine .c (t := decide (A < 0)) (fun h21 => ?_) (fun h21 => ?_)
    ·try simp only[dc]at h21
     have na : ((A.natAbs : Nat) : Int) = -A := by omega
     refine .r ?_ (by simp (disch := first|omega|(simp only[ln];omega)) [na]; rfl)
     refine J11 _ ?_
     refine ⟨?_, ?_, ?_, ?_, rfl⟩ <;> first|(simp (disch := omega) [g0, g3, g4, na];done)|omega|(simp;done)|(simp;omega)
    ·try simp only[dc]at h21
     have na : ((A.natAbs : Nat) : Int) = A := by omega
     refine .skip ?_
     refine J11 _ ?_
     refine ⟨?_, ?_, ?_, ?_, rfl⟩ <;> first|(simp (disch := omega) [g0, g3, g4, na];done)|omega|(simp;done)|(simp;omega)
   ·try simp only[dc]at h12
    have hin : i = L.length := by omega
    subst hin
    refine .exit ?_
    refine hK5 _ ?_
    refine .q ?_ (by simp (disch := first|omega|(simp only[ln];omega)) [g3]; rfl)
    refine .ret ?_
    exact hK _ _ _ _ trivial ((Fin.m).cast (by rw [eA]))
 ·have hd : decide ((lyF L).1 = 0) = false := decide_eq_false zl
  refine .region ?_
  refine .kf 1 (l6Ok_fc L hl hl2) hb63 ?_ (by simp (disch := first|omega|(simp only[ln];omega)) [List.take_succ_cons, List.take_zero, hd]; rfl) (ha := by simp (disch := first|omega|(simp only[ln];omega)) [idf_Wd', hd])
  refine .e ?_ (by simp (disch := first|omega|(simp only[ln];omega)) [hd]; rfl)
  refine hK3 _ ?_
  refine .c (fun h8 => ?_) (fun h8 => ?_)
  ·try simp only[dc]at h8
   refine .q ?_
   refine .ret ?_
   exact hK _ _ _ _ trivial ((Fin.m).cast (by unfold lyAr; rw [if_neg zl]))
  ·simp at h8
end
section
attribute [local simp] Sp.av Sp.cells Sg.av Sg.cells Pt.av Pt.cells
set_option maxHeartbeats 2000000 in
theorem fnExactLayerArea2_fc (L : List (List Sp)) (hl : L.length ≤ 9223372036854775807) (hl2 : ∀ r ∈ L, r.length ≤ 9223372036854775807) : FC Tryz.prog 6 [.isl (L.map rgC)] (.bool true) := by
 have sz := szRingS_fc L hl hl2
 rw [rgs] at sz
 refine .b Tryz.func6 27 (fun nx K hK => ?_) (hi := by simp [idfL, idf, idfLL_iff, rgC, Sp.cells, Pt.av, Pt.cells])
 refine .q ?_
 refine .q ?_
 refine .sq fun K3 hK3 => ?_
 refine .region ?_
 refine .kf 2 sz hb21 ?_
 refine .e ?_
 refine hK3 _ ?_
 refine .sq fun K4 hK4 => ?_
 refine .q ?_
 refine .c (t := decide (srA L 1048576 < 0)) (fun h11 => ?_) (fun h11 => ?_)
 ·try simp only[dc]at h11
  refine .q ?_
  refine .ret ?_
  exact hK _ _ _ _ trivial ((Fin.m))
 ·try simp only[dc]at h11
  obtain ⟨k0, k2, kn⟩ := srA_b (L := L) (n := 1048576) (by omega)
  have k1 : L.length ≤ 1048576 := by omega
  have k3 : ∀ r ∈ L, r.length ≤ 1048576 := fun r hr => by have := k2 r hr; omega
  have q1 : L.length ≤ 1099511627776 := by omega
  have q2 : ∀ r ∈ L, r.length ≤ 1099511627776 := fun r hr => by have := k3 r hr; omega
  have tr := toRingS_fc L k1 k3
  rw [rgs] at tr
  have er := eqRingS_fc L hl hl2
  rw [rgs] at er
  have cs := layerArea2S_fc L q1 q2
  have ci := layerArea2I_fc L q1 q2
  generalize lyAr L = V at *
  refine .skip ?_
  refine hK4 _ ?_
  refine .sq fun K7 hK7 => ?_
  refine .region ?_
  refine .kf 1 tr hb23 ?_
  refine .f cs hb26 ?_
  refine .e ?_
  refine hK7 _ ?_
  refine .sq fun K8 hK8 => ?_
  refine .region ?_
  refine .kf 1 tr hb23 ?_
  refine .e ?_
  refine hK8 _ ?_
  refine .sq fun K9 hK9 => ?_
  refine .region ?_
  refine .kf 1 ci hb27 ?_
  refine .e ?_
  refine hK9 _ ?_
  refine .sq fun K10 hK10 => ?_
  refine .q ?_
  refine .c (fun h21 => ?_) (fun h21 => ?_)
  ·simp at h21
  ·try simp only[dc]at h21
   refine .skip ?_
   refine hK10 _ ?_
   refine .sq fun K12 hK12 => ?_
   refine .sq fun K13 hK13 => ?_
   refine .region ?_
   refine .kf 2 tr hb23 ?_
   refine .f er hb25 ?_
   refine .e ?_
   refine hK13 _ ?_
   refine .c (fun h26 => ?_) (fun h26 => ?_)
   ·simp at h26
   ·try simp only[dc]at h26
    refine .skip ?_
    refine hK12 _ ?_
    refine .q ?_
    refine .ret ?_
    exact hK _ _ _ _ trivial ((Fin.m))
set_option maxHeartbeats 2000000 in
theorem fnExactDepthOf_fc (L : List (List Sp)) (hl : L.length ≤ 9223372036854775807) (hl2 : ∀ r ∈ L, r.length ≤ 9223372036854775807) (i : Int) (i0 : -9223372036854775808 ≤ i) (i1 : i ≤ 9223372036854775807) : FC Tryz.prog 5 [.isl (L.map rgC), .int .i64 i] (.bool true) := by
 have sz := szRingS_fc L hl hl2
 rw [rgs] at sz
 refine .b Tryz.func5 31 (fun nx K hK => ?_) (hi := by simp [idfL, idf, idfLL_iff, rgC, Sp.cells, Pt.av, Pt.cells])
 refine .q ?_
 refine .q ?_
 refine .sq fun K3 hK3 => ?_
 refine .region ?_
 refine .kf 2 sz hb21 ?_
 refine .e ?_
 refine hK3 _ ?_
 refine .sq fun K4 hK4 => ?_
 refine .q ?_
 refine .c (t := decide (srA L 1048576 < 0)) (fun h13 => ?_) (fun h13 => ?_)
 ·try simp only[dc]at h13
  refine .q ?_
  refine .ret ?_
  exact hK _ _ _ _ trivial ((Fin.m))
 ·try simp only[dc]at h13
  obtain ⟨k0, k2, kn⟩ := srA_b (L := L) (n := 1048576) (by omega)
  have k1 : L.length ≤ 1048576 := by omega
  have k3 : ∀ r ∈ L, r.length ≤ 1048576 := fun r hr => by have := k2 r hr; omega
  have q1 : L.length ≤ 1099511627776 := by omega
  have q2 : ∀ r ∈ L, r.length ≤ 1099511627776 := fun r hr => by have := k3 r hr; omega
  have tr := toRingS_fc L k1 k3
  rw [rgs] at tr
  have er := eqRingS_fc L hl hl2
  rw [rgs] at er
  have cs := depthOfS_fc L q1 q2 i i0 i1
  have ci := depthOfI_fc L q1 q2 i i0 i1
  generalize dpF L i = V at *
  refine .skip ?_
  refine hK4 _ ?_
  refine .sq fun K7 hK7 => ?_
  refine .region ?_
  refine .kf 1 tr hb23 ?_
  refine .kf 1 cs hb22 ?_
  refine .e ?_
  refine hK7 _ ?_
  refine .sq fun K8 hK8 => ?_
  refine .region ?_
  refine .kf 1 tr hb23 ?_
  refine .e ?_
  refine hK8 _ ?_
  refine .sq fun K9 hK9 => ?_
  refine .region ?_
  refine .kf 2 ci hb24 ?_
  refine .e ?_
  refine hK9 _ ?_
  refine .sq fun K10 hK10 => ?_
  refine .q ?_
  refine .c (fun h25 => ?_) (fun h25 => ?_)
  ·simp at h25
  ·try simp only[dc]at h25
   refine .skip ?_
   refine hK10 _ ?_
   refine .sq fun K12 hK12 => ?_
   refine .sq fun K13 hK13 => ?_
   refine .region ?_
   refine .kf 2 tr hb23 ?_
   refine .f er hb25 ?_
   refine .e ?_
   refine hK13 _ ?_
   refine .c (fun h30 => ?_) (fun h30 => ?_)
   ·simp at h30
   ·try simp only[dc]at h30
    refine .skip ?_
    refine hK12 _ ?_
    refine .q ?_
    refine .ret ?_
    exact hK _ _ _ _ trivial ((Fin.m))
set_option maxHeartbeats 2000000 in
theorem fnExactLayerSide_fc (L : List (List Sp)) (hl : L.length ≤ 9223372036854775807) (hl2 : ∀ r ∈ L, r.length ≤ 9223372036854775807) (p : Pt) (hp : p.ok) : FC Tryz.prog 7 [.isl (L.map rgC), p.av] (.bool true) := by
 have sz := szRingS_fc L hl hl2
 rw [rgs] at sz
 refine .b Tryz.func7 33 (fun nx K hK => ?_) (hi := by simp [idfL, idf, idfLL_iff, rgC, Sp.cells, Pt.av, Pt.cells])
 refine .q ?_
 refine .q ?_
 refine .sq fun K3 hK3 => ?_
 refine .region ?_
 refine .kf 2 sz hb21 ?_
 refine .e ?_
 refine hK3 _ ?_
 refine .sq fun K4 hK4 => ?_
 refine .q ?_
 refine .c (t := decide (srA L 1048576 < 0)) (fun h13 => ?_) (fun h13 => ?_)
 ·try simp only[dc]at h13
  refine .q ?_
  refine .ret ?_
  exact hK _ _ _ _ trivial ((Fin.m))
 ·try simp only[dc]at h13
  obtain ⟨k0, k2, kn⟩ := srA_b (L := L) (n := 1048576) (by omega)
  have k1 : L.length ≤ 1048576 := by omega
  have k3 : ∀ r ∈ L, r.length ≤ 1048576 := fun r hr => by have := k2 r hr; omega
  have q1 : L.length ≤ 1099511627776 := by omega
  have q2 : ∀ r ∈ L, r.length ≤ 1099511627776 := fun r hr => by have := k3 r hr; omega
  have tr := toRingS_fc L k1 k3
  rw [rgs] at tr
  have er := eqRingS_fc L hl hl2
  rw [rgs] at er
  have cs := layerSideS_fc L q1 q2 p hp
  have ci := layerSideI_fc L q1 q2 p hp
  generalize lyV L p = V at *
  refine .skip ?_
  refine hK4 _ ?_
  refine .sq fun K7 hK7 => ?_
  refine .d 5 ?_
  refine .k 1 (fun fs8 hfs8 => ?_)
  refine .f tr hb23 ?_
  refine .k 1 (fun fs9 hfs9 => ?_)
  refine .f (toPoint_fc p) hb11 ?_
  refine .f cs hb28 ?_
  refine .r 5 (by simp only[ln, hfs8, hfs9];omega) ?_
  refine hK7 _ ?_
  refine .sq fun K10 hK10 => ?_
  refine .region ?_
  refine .kf 1 tr hb23 ?_
  refine .e ?_
  refine hK10 _ ?_
  refine .sq fun K11 hK11 => ?_
  refine .region ?_
  refine .kf 2 (toPoint_fc p) hb11 ?_
  refine .f ci hb29 ?_
  refine .e ?_
  refine hK11 _ ?_
  refine .sq fun K12 hK12 => ?_
  refine .q ?_
  refine .c (fun h27 => ?_) (fun h27 => ?_)
  ·simp at h27
  ·try simp only[dc]at h27
   refine .skip ?_
   refine hK12 _ ?_
   refine .sq fun K14 hK14 => ?_
   refine .sq fun K15 hK15 => ?_
   refine .region ?_
   refine .kf 2 tr hb23 ?_
   refine .f er hb25 ?_
   refine .e ?_
   refine hK15 _ ?_
   refine .c (fun h32 => ?_) (fun h32 => ?_)
   ·simp at h32
   ·try simp only[dc]at h32
    refine .skip ?_
    refine hK14 _ ?_
    refine .q ?_
    refine .ret ?_
    exact hK _ _ _ _ trivial ((Fin.m))
set_option maxHeartbeats 2000000 in
theorem ringSideI_fc (r : List Sp) (hl : r.length ≤ 1099511627776) (p : Pt) (hp : p.ok) : FC Tryz.prog 12 [.agg [.isl (r.map Sp.cells)], p.av] (.int .i64 (rgSV r p : Int)) := by
 refine .b Tryz.func12 16 (fun nx K hK => ?_) (hi := by simp [idfL, idf, idfLL_iff, Sp.av, Sp.cells, Pt.av, Pt.cells])
 refine .q ?_
 refine .sq fun K2 hK2 => ?_
 refine .sq fun K3 hK3 => ?_
 by_cases zr : rgF r = 0
 ·have hd : decide (rgF r = 0) = true := decide_eq_true zr
  obtain ⟨w1, w12, w3, w4, _⟩ := rgF_zero zr
  cases gp : p.good
  ·refine .region ?_
   refine .kf 1 (isRing_fc r hl) hb37 ?_ (by simp (disch := first|omega|(simp only[ln];omega)) [List.take_succ_cons, List.take_zero, hd, gp]; rfl) (ha := by simp (disch := first|omega|(simp only[ln];omega)) [idf_Wd', hd, gp])
   refine .kf 3 (pointOkI_fc p hp) hb38 ?_ (by simp (disch := first|omega|(simp only[ln];omega)) [List.take_succ_cons, List.take_zero, hd, gp]; rfl) (ha := by simp (disch := first|omega|(simp only[ln];omega)) [idf_Wd', hd, gp])
   refine .e ?_ (by simp (disch := first|omega|(simp only[ln];omega)) [hd, gp]; rfl)
   refine hK3 _ ?_
   refine .c (fun h12 => ?_) (fun h12 => ?_)
   ·try simp only[dc]at h12
    refine .q ?_
    refine .ret ?_
    exact hK _ _ _ _ trivial ((Fin.m).cast (by rw [rgSV_np gp]))
   ·simp at h12
  ·refine .region ?_
   refine .kf 1 (isRing_fc r hl) hb37 ?_ (by simp (disch := first|omega|(simp only[ln];omega)) [List.take_succ_cons, List.take_zero, hd, gp]; rfl) (ha := by simp (disch := first|omega|(simp only[ln];omega)) [idf_Wd', hd, gp])
   refine .kf 3 (pointOkI_fc p hp) hb38 ?_ (by simp (disch := first|omega|(simp only[ln];omega)) [List.take_succ_cons, List.take_zero, hd, gp]; rfl) (ha := by simp (disch := first|omega|(simp only[ln];omega)) [idf_Wd', hd, gp])
   refine .e ?_ (by simp (disch := first|omega|(simp only[ln];omega)) [hd, gp]; rfl)
   refine hK3 _ ?_
   refine .c (fun h12 => ?_) (fun h12 => ?_)
   ·simp at h12
   ·try simp only[dc]at h12
    have cs := sideI_fc r w3 hl p hp gp
    refine .skip ?_
    refine hK2 _ ?_
    refine .sq fun K5 hK5 => ?_
    refine .region ?_
    refine .kf 2 cs hb39 ?_
    refine .e ?_
    refine hK5 _ ?_
    refine .ret ?_
    exact hK _ _ _ _ trivial ((Fin.m).cast (by rw [rgSV_ok zr gp]))
 ·have hd : decide (rgF r = 0) = false := decide_eq_false zr
  refine .region ?_
  refine .kf 1 (isRing_fc r hl) hb37 ?_ (by simp (disch := first|omega|(simp only[ln];omega)) [List.take_succ_cons, List.take_zero, hd]; rfl) (ha := by simp (disch := first|omega|(simp only[ln];omega)) [idf_Wd', hd])
  refine .e ?_ (by simp (disch := first|omega|(simp only[ln];omega)) [hd]; rfl)
  refine hK3 _ ?_
  refine .c (fun h12 => ?_) (fun h12 => ?_)
  ·try simp only[dc]at h12
   refine .q ?_
   refine .ret ?_
   exact hK _ _ _ _ trivial ((Fin.m).cast (by rw [rgSV_no zr]))
  ·simp at h12
set_option maxHeartbeats 2000000 in
theorem ringSideS_fc (r : List Sp) (hl : r.length ≤ 1099511627776) (p : Pt) (hp : p.ok) : FC Tryz.prog 9 [.agg [.isl (r.map Sp.cells)], p.av] (.int .i64 (rgSV r p : Int)) := by
 refine .b Tryz.func9 17 (fun nx K hK => ?_) (hi := by simp [idfL, idf, idfLL_iff, Sp.av, Sp.cells, Pt.av, Pt.cells])
 refine .q ?_
 refine .sq fun K2 hK2 => ?_
 refine .sq fun K3 hK3 => ?_
 by_cases zr : rgF r = 0
 ·have hd : decide (rgF r = 0) = true := decide_eq_true zr
  obtain ⟨w1, w12, w3, w4, _⟩ := rgF_zero zr
  cases gp : p.good
  ·refine .region ?_
   refine .kf 1 (l5Ok_fc r hl) hb31 ?_ (by simp (disch := first|omega|(simp only[ln];omega)) [List.take_succ_cons, List.take_zero, hd, gp]; rfl) (ha := by simp (disch := first|omega|(simp only[ln];omega)) [idf_Wd', hd, gp])
   refine .kf 3 (pointOkS_fc p hp) hb32 ?_ (by simp (disch := first|omega|(simp only[ln];omega)) [List.take_succ_cons, List.take_zero, hd, gp]; rfl) (ha := by simp (disch := first|omega|(simp only[ln];omega)) [idf_Wd', hd, gp])
   refine .e ?_ (by simp (disch := first|omega|(simp only[ln];omega)) [hd, gp]; rfl)
   refine hK3 _ ?_
   refine .c (fun h12 => ?_) (fun h12 => ?_)
   ·try simp only[dc]at h12
    refine .q ?_
    refine .ret ?_
    exact hK _ _ _ _ trivial ((Fin.m).cast (by rw [rgSV_np gp]))
   ·simp at h12
  ·refine .region ?_
   refine .kf 1 (l5Ok_fc r hl) hb31 ?_ (by simp (disch := first|omega|(simp only[ln];omega)) [List.take_succ_cons, List.take_zero, hd, gp]; rfl) (ha := by simp (disch := first|omega|(simp only[ln];omega)) [idf_Wd', hd, gp])
   refine .kf 3 (pointOkS_fc p hp) hb32 ?_ (by simp (disch := first|omega|(simp only[ln];omega)) [List.take_succ_cons, List.take_zero, hd, gp]; rfl) (ha := by simp (disch := first|omega|(simp only[ln];omega)) [idf_Wd', hd, gp])
   refine .e ?_ (by simp (disch := first|omega|(simp only[ln];omega)) [hd, gp]; rfl)
   refine hK3 _ ?_
   refine .c (fun h12 => ?_) (fun h12 => ?_)
   ·simp at h12
   ·try simp only[dc]at h12
    have cs := l5In_fc r w3 hl p hp gp w4 w1
    refine .skip ?_
    refine hK2 _ ?_
    refine .sq fun K5 hK5 => ?_
    refine .d 4 ?_
    refine .k 2 (fun fs6 hfs6 => ?_)
    refine .f (l3Of_fc p hp) hb34 ?_
    refine .f cs hb33 ?_
    refine .r 4 (by simp only[ln, hfs6];omega) ?_
    refine hK5 _ ?_
    refine .ret ?_
    exact hK _ _ _ _ trivial ((Fin.m).cast (by rw [rgSV_ok zr gp]))
 ·have hd : decide (rgF r = 0) = false := decide_eq_false zr
  refine .region ?_
  refine .kf 1 (l5Ok_fc r hl) hb31 ?_ (by simp (disch := first|omega|(simp only[ln];omega)) [List.take_succ_cons, List.take_zero, hd]; rfl) (ha := by simp (disch := first|omega|(simp only[ln];omega)) [idf_Wd', hd])
  refine .e ?_ (by simp (disch := first|omega|(simp only[ln];omega)) [hd]; rfl)
  refine hK3 _ ?_
  refine .c (fun h12 => ?_) (fun h12 => ?_)
  ·try simp only[dc]at h12
   refine .q ?_
   refine .ret ?_
   exact hK _ _ _ _ trivial ((Fin.m).cast (by rw [rgSV_no zr]))
  ·simp at h12
set_option maxHeartbeats 2000000 in
theorem fnExactRingSide_fc (r : List Sp) (hr : r.length ≤ 9223372036854775807) (p : Pt) (hp : p.ok) : FC Tryz.prog 3 [.agg [.isl (r.map Sp.cells)], p.av] (.bool true) := by
 refine .b Tryz.func3 33 (fun nx K hK => ?_) (hi := by simp [idfL, idf, idfLL_iff, Sp.av, Sp.cells, Pt.av, Pt.cells])
 refine .q ?_
 refine .q ?_
 refine .sq fun K3 hK3 => ?_
 refine .region ?_
 refine .kf 2 (szRing_fc r 1048576 (by omega) (by omega) hr) hb8 ?_
 refine .e ?_
 refine hK3 _ ?_
 refine .sq fun K4 hK4 => ?_
 refine .q ?_
 refine .c (t := decide (szN r.length 1048576 < 0)) (fun h13 => ?_) (fun h13 => ?_)
 ·try simp only[dc]at h13
  refine .q ?_
  refine .ret ?_
  exact hK _ _ _ _ trivial ((Fin.m))
 ·try simp only[dc]at h13
  obtain ⟨k1, _⟩ := szN_le h13
  have k2 : r.length ≤ 1048576 := by omega
  have k3 : r.length ≤ 1099511627776 := by omega
  have cs := ringSideS_fc r k3 p hp
  have ci := ringSideI_fc r k3 p hp
  generalize rgSV r p = V at *
  refine .skip ?_
  refine hK4 _ ?_
  refine .sq fun K7 hK7 => ?_
  refine .d 5 ?_
  refine .k 1 (fun fs8 hfs8 => ?_)
  refine .f (toRing_fc r k2) hb10 ?_
  refine .k 1 (fun fs9 hfs9 => ?_)
  refine .f (toPoint_fc p) hb11 ?_
  refine .f cs hb9 ?_
  refine .r 5 (by simp only[ln, hfs8, hfs9];omega) ?_
  refine hK7 _ ?_
  refine .sq fun K10 hK10 => ?_
  refine .region ?_
  refine .kf 1 (toRing_fc r k2) hb10 ?_
  refine .e ?_
  refine hK10 _ ?_
  refine .sq fun K11 hK11 => ?_
  refine .d 4 ?_
  refine .k 2 (fun fs12 hfs12 => ?_)
  refine .f (toPoint_fc p) hb11 ?_
  refine .f ci hb12 ?_
  refine .r 4 (by simp only[ln, hfs12];omega) ?_
  refine hK11 _ ?_
  refine .sq fun K13 hK13 => ?_
  refine .q ?_
  refine .c (fun h27 => ?_) (fun h27 => ?_)
  ·simp at h27
  ·try simp only[dc]at h27
   refine .skip ?_
   refine hK13 _ ?_
   refine .sq fun K15 hK15 => ?_
   refine .sq fun K16 hK16 => ?_
   refine .d 5 ?_
   refine .k 2 (fun fs17 hfs17 => ?_)
   refine .f (toRing_fc r k2) hb10 ?_
   refine .f (eqRing_fc r hr) hb13 ?_
   refine .k 1 (fun fs18 hfs18 => ?_)
   refine .r 5 (by simp only[ln, hfs17, hfs18];omega) ?_
   refine hK16 _ ?_
   refine .c (fun h32 => ?_) (fun h32 => ?_)
   ·simp at h32
   ·try simp only[dc]at h32
    refine .skip ?_
    refine hK15 _ ?_
    refine .q ?_
    refine .ret ?_
    exact hK _ _ _ _ trivial ((Fin.m))
end

end Go.Proofs.YtdcajfgeleopiaaGreat
