/- Walks: FnStatus, walked. -/
import Derived.Test.YtaibemhdfhchfaaGreatG12

namespace Go.Proofs.YtaibemhdfhchfaaGreat
open Go Go.RowKit
set_option linter.unusedSimpArgs false
set_option linter.unusedVariables false
set_option maxRecDepth 100000
attribute [local simp] szT2 byT2 agT2 unT2 zoT2 szT3 byT3 agT3 unT3 zoT3 szT24 byT24 agT24 elT24 unT24 zoT24 szT27 byT27 agT27 flT27 fdT27_0 fdT27_1 fdT27_2 fdT27_3 zoT27 szT29 byT29 agT29 flT29 fdT29_0 fdT29_1 fdT29_2 zoT29 szT32 byT32 agT32 elT32 unT32 zoT32 szT38 byT38 agT38 flT38 fdT38_0 fdT38_1 zoT38 szT40 byT40 agT40 flT40 fdT40_0 fdT40_1 zoT40
theorem statusI_fc (L : List Sg) (p : Pt) (hp : p.ok) (hl : L.length ≤ 19) (zs : sgF L = 0) (hg : p.good = true) : FC Tryz.prog 16 [.isl (L.map Sg.cells), p.av] (Wd .i64 (stZ L p)) :=
  FC.of_own (z := 1) (es := wd .i64 (stZ L p)) (mk := fun id => .osl id 0 (stZ L p).length) (by simp [idfL, idf, idfLL_iff, Sg.cells, Pt.av, Pt.cells]) (by simp [idf_Wd']) (fun id => fz_wd rfl) fun nx => statusI_own L p hp hl zs hg nx
theorem statusS_fc (L : List Sg) (p : Pt) (hp : p.ok) (hl : L.length ≤ 1048576) (zs : sgF L = 0) (hg : p.good = true) : FC Tryz.prog 18 [.isl (L.map Sg.cells), p.av] (Wd .i64 (stZ L p)) :=
  FC.of_own (z := 1) (es := wd .i64 (stZ L p)) (mk := fun id => .osl id 0 (stZ L p).length) (by simp [idfL, idf, idfLL_iff, Sg.cells, Pt.av, Pt.cells]) (by simp [idf_Wd']) (fun id => fz_wd rfl) fun nx => statusS_own L p hp hl zs hg nx

theorem ovF_lo (s : Sg) (p : Pt) : -1 ≤ ovF s p := by
  have := sdF_b s p
  unfold ovF ovI
  repeat' split
  all_goals omega
theorem sz_gt {L : List Sg} {p : Pt} {i : Nat} (h : i < (stZ L p).length) : gt (stZ L p) i = (sq L p i : Int) := by
  have h' : i < (stI L p L.length).length := by simpa [stZ] using h
  unfold gt stZ sq
  rw [List.getElem?_map, List.getD_eq_getElem?_getD, List.getElem?_eq_getElem h']; rfl
theorem sz_no {L : List Sg} {p : Pt} {i : Nat} (h : i < (stZ L p).length) : ∀ j, j < ((stZ L p).take i).length → gt ((stZ L p).take i) j ≠ (sq L p i : Int) := by
  intro j hj
  have hji : j < i := by rw [List.length_take] at hj; omega
  have e : gt ((stZ L p).take i) j = gt (stZ L p) j := by unfold gt; rw [List.getElem?_take, if_pos hji]
  rw [e, sz_gt (by omega)]
  have := sq_ne hji (show i < (stI L p L.length).length by simpa [stZ] using h)
  omega

set_option maxHeartbeats 1000000 in
theorem sameInts_nl  : FC Tryz.prog 17 [.nsl, .isl []] (.bool true) := by
 refine .b Tryz.func17 26 (fun nx K hK => ?_)
 refine .q ?_
 refine .sq fun K2 hK2 => ?_
 refine .q ?_ (by simp (disch := first|omega|(simp only[ln];omega)) [len_Wd (P := Tryz.prog) #[32] rfl elT32]; rfl)
 refine .c (t := false) (fun h10 => ?_) (fun h10 => ?_)
 ·simp at h10
 ·try simp only[dc]at h10
  refine .skip ?_
  refine hK2 _ ?_
  refine .sq fun K4 hK4 => ?_
  refine .q ?_
  refine .block ?_
  
  refine .loop (fun N s => ∃ i : Nat, N = 0 - i ∧ i ≤ 0 ∧ s.env 0 = .nsl ∧ s.env 5 = .int .i64 (i : Int) ∧ s.nt = 26) (0) (by refine ⟨0, by omega, by omega, ?_, ?_, rfl⟩ <;> first|(simp (disch := omega);done)|omega|(simp;done)|(simp;omega)) ?_
  rintro N ⟨e, H, mm, nt⟩ ⟨i, rfl, hi, g0, g5, rfl⟩
  simp only [] at g0 g5
  refine .sq fun K6 hK6 => ?_
  refine .q ?_ (by simp (disch := first|omega|(simp only[ln];omega)) [len_Wd (P := Tryz.prog) #[32] rfl elT32, g0, g5]; rfl)
  refine .c (t := decide ((i : Int) < 0)) (fun h14 => ?_) (fun h14 => ?_)
  ·simp at h14; omega
  ·try simp only[dc]at h14
   refine .exit ?_
   refine hK4 _ ?_
   refine .q ?_
   refine .ret ?_
   exact hK _ _ _ _ trivial ((Fin.mk (r := .bool true) (by simp [aRes, aResL, aRes1]; try rfl)))
section
attribute [local simp] idf_numS cells_numS numS_fold idf_numI cells_numI numI_fold Sp.av Sp.cells Sg.av Sg.cells Pt.av Pt.cells
set_option maxHeartbeats 8000000 in
theorem fnStatus_fc (l : List Int) (dl : Dig 256 l) : FC Tryz.prog 3 [Wd .u8 l] (.bool true) := by
 refine .b Tryz.func3 72 (fun nx K hK => ?_)
 refine .q ?_
 refine .sq fun K2 hK2 => ?_
 refine .sq fun K3 hK3 => ?_
 refine .region ?_
 refine .kf 1 (big_fc l) hb14 ?_
 refine .nil ?_
 refine hK3 _ ?_
 refine .c (t := decide (1048576 < (l.length : Int))) (fun h10 => ?_) (fun h10 => ?_)
 ·try simp only[dc]at h10
  refine .q ?_
  refine .ret ?_
  exact hK _ _ _ _ trivial ((Fin.mk (r := .bool true) (by simp [aRes, aResL, aRes1]; try rfl)))
 ·try simp only[dc]at h10
  have hl : l.length ≤ 1048576 := by omega
  refine .skip ?_
  refine hK2 _ ?_
  refine .sq fun K5 hK5 => ?_
  refine .region ?_
  refine .k 1 ?_
  refine AOPS.old fun hold1 => ?_
  refine .a (drawStatusAt_ac l _ _ dl hl hold1) hb15 ?_
  rintro _ _ nx1 ⟨S, P, i2, rfl, So, Sl, Po, rfl, hi1, hi2⟩
  try simp only [] at hi1 hi2
  clear hold1
  refine .e ?_
  refine hK5 _ ?_
  refine .sq fun K6 hK6 => ?_
  refine AWP.frz1 3 i2 4 (S.map Sg.cells) (.isl (S.map Sg.cells)) (by simp (disch := omega)) (by simp (disch := omega); exact fz_fill Sg.cells S rfl) ?_
  refine AWP.frz1 4 nx1 12 [P.cells] (.ip P.cells) (by simp (disch := omega) [Pt.cells]) (by simp (disch := omega) [fz, Pt.cells]) ?_
  by_cases hz : sgF S = 0 ∧ P.good = true
  ·obtain ⟨z1, z2⟩ := sgF_zero hz.1
   have hgd : decide (sgF S = 0) = true := decide_eq_true hz.1
   obtain ⟨Z, hZ⟩ : ∃ Z, Z = stZ S P := ⟨_, rfl⟩
   have hZl : Z.length = (stI S P S.length).length := by rw [hZ]; simp [stZ]
   have hZb : Z.length ≤ 6 := by rw [hZl, stI_len]; exact Nat.le_trans (svL_len S P S.length) Sl
   have fI := statusI_fc S P Po (by omega) hz.1 hz.2
   have fS := statusS_fc S P Po (by omega) hz.1 hz.2
   rw [← hZ] at fI fS
   refine .region ?_
   refine .kf 2 fI hb16 ?_
   refine .e ?_
   refine hK6 _ ?_
   refine .sq fun K7 hK7 => ?_
   refine .sq fun K8 hK8 => ?_
   refine .region ?_
   refine .kf 3 fS hb18 ?_
   refine .f (sameInts_fc Z (by omega)) hb17 ?_
   refine .e ?_
   refine hK8 _ ?_
   refine .c (fun h24 => ?_) (fun h24 => ?_)
   ·simp at h24
   ·try simp only[dc]at h24
    refine .skip ?_
    refine hK7 _ ?_
    refine .q ?_
    refine .sq fun K10 hK10 => ?_
    refine .q ?_
    refine .block ?_
    
    refine .loop (fun N s => ∃ i : Nat, ∃ v : Int, N = Z.length - i ∧ i ≤ Z.length ∧ (-1 ≤ v ∧ (i < Z.length → v ≤ ovF (gq S (sq S P i)) P)) ∧ s.env 3 = .isl (S.map Sg.cells) ∧ s.env 4 = .ip P.cells ∧ s.env 5 = Wd .i64 Z ∧ s.env 6 = .int .i64 v ∧ s.env 7 = .int .i64 (i : Int) ∧ s.nt = 72) (Z.length) (by refine ⟨0, (-1), by omega, by omega, ⟨by omega, fun _ => ovF_lo _ _⟩, ?_, ?_, ?_, ?_, ?_, rfl⟩ <;> first|(simp (disch := omega);done)|omega|(simp;done)|(simp;omega)) ?_
    rintro N ⟨e, H, mm, nt⟩ ⟨i, v, rfl, hi, hv, g3, g4, g5, g6, g7, rfl⟩
    simp only [] at g3 g4 g5 g6 g7
    refine .sq fun K12 hK12 => ?_
    refine .q ?_ (by simp (disch := first|omega|(simp only[ln];omega)) [len_Wd (P := Tryz.prog) #[32] rfl elT32, g5, g7]; rfl)
    refine .c (fun h28 => ?_) (fun h28 => ?_)
    ·try simp only[dc]at h28
     have hi' : i < Z.length := by omega
     have hiI : i < (stI S P S.length).length := by omega
     obtain ⟨b1, b2⟩ := sq_b hiI
     have hgt : gt Z i = (sq S P i : Int) := by rw [hZ]; exact sz_gt (by rw [← hZ]; exact hi')
     have hno := sz_no (L := S) (p := P) (i := i) (by rw [← hZ]; exact hi')
     rw [← hZ] at hno
     have hV4 : i + 1 < Z.length → ovF (gq S (sq S P i)) P ≤ ovF (gq S (sq S P (i + 1))) P := fun h => sq_ov z2 hz.2 (Nat.lt_succ_self i) (by omega)
     have hvv := hv.2 hi'
     have hov := overAtI_fc (gq S (sq S P i)) P Po
     have hV1 : -1 ≤ ovF (gq S (sq S P i)) P := ovF_lo _ _
     have hV2 : ovF (gq S (sq S P i)) P ≤ 1 := by rw [ov_st (z2 _ (gq_mem b1)) hz.2 b2]; exact (sg3_b _).2
     have hat2 : (S.map Sg.cells)[sq S P i]? = some (Sg.cells (gq S (sq S P i))) := by rw [List.getElem?_map, gq_get b1]; rfl
     obtain ⟨V, hV⟩ : ∃ V, V = ovF (gq S (sq S P i)) P := ⟨_, rfl⟩
     rw [← hV] at hV1 hV2 hV4 hvv hov
     obtain ⟨x, hx⟩ : ∃ x, x = sq S P i := ⟨_, rfl⟩
     rw [← hx] at b1 b2 hgt hno hov hat2
     have hat := wd_at hi'
     rw [hgt] at hat
     have hae : ∀ h : i < (wd .i64 Z).length, (wd .i64 Z)[i] = [.int .i64 (x : Int)] := fun h => by rw [List.getElem?_eq_getElem h] at hat; simpa using hat
     have hae2 : ∀ h : x < (S.map Sg.cells).length, (S.map Sg.cells)[x] = Sg.cells (gq S x) := fun h => by rw [List.getElem?_eq_getElem h] at hat2; simpa using hat2
     obtain ⟨G, hG⟩ : ∃ G, G = gq S x := ⟨_, rfl⟩
     rw [← hG] at hov hat2 hae2
     have hxn : (S.length ≤ x) = False := by first|(simp;done)|(simp;omega)
     have hx0 : ((x : Int) < 0) = False := by first|(simp;done)|(simp;omega)
     have d3 : (V == 2) = false := by first|(simp;done)|(simp;omega)
     have d4 : decide (V < v) = false := decide_eq_false (by omega)
     have d5 : ¬ V < v := by omega
     have hil := Nat.le_of_lt hi'
     have hcn := hasInt_no (Z.take i) (x : Int) (by rw [List.length_take]; omega) hno
     refine .skip ?_
     refine hK12 _ ?_
     refine .sq fun K14 hK14 => ?_
     refine .block ?_
     refine .sq fun K15 hK15 => ?_
     refine .sq fun K16 hK16 => ?_
     refine .d 24 ?_
     refine .k 22 (fun fs17 hfs17 => ?_) (by simp (disch := first|omega|(simp only[ln];omega)) [runDf.eq_def, runF1, runF2, stepF.eq_def, updo.eq_def, hupo.eq_def, opSto1.eq_def, List.take_succ_cons, List.take_zero, idx_WdD (P := Tryz.prog) elT32 szT2, if_pos, g3, g5, g7, hgt, hx0, hat, hae, b1, hxn, hil, hi', List.length_map, List.drop_zero, slc_Wd (P := Tryz.prog) (k := .i64) (l := Z) (lo := none) (hi := some (.int .i64 (i : Int))) (a := 0) (b := i) elT32 szT2 rfl (by simp [bnd]) (Nat.zero_le _) (by omega)]; rfl)
     refine .f hcn hb19 ?_ (ha := by simp (disch := first|omega|(simp only[ln];omega)) [idf_Wd', idx_WdD (P := Tryz.prog) elT32 szT2, if_pos, g3, g5, g7, hgt, hx0, hat, hae, b1, hxn, hil, hi', List.length_map, List.drop_zero, slc_Wd (P := Tryz.prog) (k := .i64) (l := Z) (lo := none) (hi := some (.int .i64 (i : Int))) (a := 0) (b := i) elT32 szT2 rfl (by simp [bnd]) (Nat.zero_le _) (by omega)])
     refine .k 1 (fun fs18 hfs18 => ?_) (by simp (disch := first|omega|(simp only[ln];omega)) [runDf.eq_def, runF1, runF2, stepF.eq_def, updo.eq_def, hupo.eq_def, opSto1.eq_def, List.take_succ_cons, List.take_zero, idx_WdD (P := Tryz.prog) elT32 szT2, if_pos, g3, g5, g7, hgt, hx0, hat, hae, b1, hxn, hil, hi', List.length_map, List.drop_zero, slc_Wd (P := Tryz.prog) (k := .i64) (l := Z) (lo := none) (hi := some (.int .i64 (i : Int))) (a := 0) (b := i) elT32 szT2 rfl (by simp [bnd]) (Nat.zero_le _) (by omega)]; rfl)
     refine .r 24 (by simp only[ln, hfs17, hfs18];omega) ?_ (by simp (disch := first|omega|(simp only[ln];omega)) [runDf.eq_def, runF1, runF2, stepF.eq_def, updo.eq_def, hupo.eq_def, opSto1.eq_def, idx_WdD (P := Tryz.prog) elT32 szT2, if_pos, g3, g5, g7, hgt, hx0, hat, hae, b1, hxn, hil, hi', List.length_map, List.drop_zero, slc_Wd (P := Tryz.prog) (k := .i64) (l := Z) (lo := none) (hi := some (.int .i64 (i : Int))) (a := 0) (b := i) elT32 szT2 rfl (by simp [bnd]) (Nat.zero_le _) (by omega)]; rfl)
     refine hK16 _ ?_
     refine .c (t := false) (fun h54 => ?_) (fun h54 => ?_)
     ·simp at h54
     ·try simp only[dc]at h54
      refine .skip ?_
      refine hK15 _ ?_
      refine .sq fun K19 hK19 => ?_
      refine .d 9 ?_
      refine .k 8 (fun fs20 hfs20 => ?_) (by simp (disch := first|omega|(simp only[ln];omega)) [runDf.eq_def, runF1, runF2, stepF.eq_def, updo.eq_def, hupo.eq_def, opSto1.eq_def, List.take_succ_cons, List.take_zero, idx_WdD (P := Tryz.prog) elT32 szT2, if_pos, g3, g4, g5, g7, hgt, hx0, hat, hae, hat2, hae2, b1, hi', List.length_map]; rfl)
      refine .f hov hb20 ?_ (ha := by simp (disch := first|omega|(simp only[ln];omega)) [idf_Wd', idx_WdD (P := Tryz.prog) elT32 szT2, if_pos, g3, g4, g5, g7, hgt, hx0, hat, hae, hat2, hae2, b1, hi', List.length_map])
      refine .r 9 (by simp only[ln, hfs20];omega) ?_ (by simp (disch := first|omega|(simp only[ln];omega)) [runDf.eq_def, runF1, runF2, stepF.eq_def, updo.eq_def, hupo.eq_def, opSto1.eq_def, idx_WdD (P := Tryz.prog) elT32 szT2, if_pos, g3, g4, g5, g7, hgt, hx0, hat, hae, hat2, hae2, b1, hi', List.length_map]; rfl)
      refine hK19 _ ?_
      refine .sq fun K21 hK21 => ?_
      refine .q ?_ (by simp (disch := first|omega|(simp only[ln];omega)) [g6, d3, d4, d5]; rfl)
      refine .c (t := false) (fun h70 => ?_) (fun h70 => ?_)
      ·simp at h70
      ·try simp only[dc]at h70
       refine .skip ?_
       refine hK21 _ ?_
       
       refine .r ?_
       refine hK14 _ ?_
       refine .r ?_ (by simp (disch := first|omega|(simp only[ln];omega)) [g7]; rfl)
       refine ⟨Z.length - (i + 1), by omega, i + 1, V, rfl, by omega, ⟨hV1, fun h => hV4 h⟩, ?_, ?_, ?_, ?_, ?_, rfl⟩ <;> first|(simp (disch := omega) [g3, g4, g5, g6, g7];done)|omega|(simp;done)|(simp;omega)
    ·try simp only[dc]at h28
     refine .exit ?_
     refine hK10 _ ?_
     refine .q ?_
     refine .ret ?_
     exact hK _ _ _ _ trivial ((Fin.mk (r := .bool true) (by simp [aRes, aResL, aRes1]; try rfl)))
  ·refine .region ?_
   refine .kf 2 (statusNoI S P Po (by omega) hz) hb16 ?_
   refine .e ?_
   refine hK6 _ ?_
   refine .sq fun K24 hK24 => ?_
   refine .sq fun K25 hK25 => ?_
   refine .region ?_
   refine .kf 3 (statusNoS S P Po (by omega) hz) hb18 ?_
   refine .f sameInts_nl hb17 ?_
   refine .e ?_
   refine hK25 _ ?_
   refine .c (fun h24 => ?_) (fun h24 => ?_)
   ·simp at h24
   ·try simp only[dc]at h24
    refine .skip ?_
    refine hK24 _ ?_
    refine .q ?_
    refine .sq fun K27 hK27 => ?_
    refine .q ?_
    refine .block ?_
    
    refine .loop (fun N s => ∃ i : Nat, N = 0 - i ∧ i ≤ 0 ∧ s.env 5 = .nsl ∧ s.env 7 = .int .i64 (i : Int) ∧ s.nt = 72) (0) (by refine ⟨0, by omega, by omega, ?_, ?_, rfl⟩ <;> first|(simp (disch := omega);done)|omega|(simp;done)|(simp;omega)) ?_
    rintro N ⟨e, H, mm, nt⟩ ⟨i, rfl, hi, g5, g7, rfl⟩
    simp only [] at g5 g7
    refine .sq fun K29 hK29 => ?_
    refine .q ?_ (by simp (disch := first|omega|(simp only[ln];omega)) [len_Wd (P := Tryz.prog) #[32] rfl elT32, g5, g7]; rfl)
    refine .c (t := decide ((i : Int) < 0)) (fun h28 => ?_) (fun h28 => ?_)
    ·simp at h28; omega
    ·try simp only[dc]at h28
     refine .exit ?_
     refine hK27 _ ?_
     refine .q ?_
     refine .ret ?_
     exact hK _ _ _ _ trivial ((Fin.mk (r := .bool true) (by simp [aRes, aResL, aRes1]; try rfl)))
end

end Go.Proofs.YtaibemhdfhchfaaGreat
