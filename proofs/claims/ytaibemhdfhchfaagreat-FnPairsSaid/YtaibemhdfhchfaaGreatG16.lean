/- Walks: FnPairs, walked. -/
import Derived.Test.YtaibemhdfhchfaaGreatG15

namespace Go.Proofs.YtaibemhdfhchfaaGreat
open Go Go.RowKit
set_option linter.unusedSimpArgs false
set_option linter.unusedVariables false
set_option maxRecDepth 100000
attribute [local simp] szT2 byT2 agT2 unT2 zoT2 szT3 byT3 agT3 unT3 zoT3 szT4 byT4 agT4 unT4 zoT4 szT24 byT24 agT24 elT24 unT24 zoT24 szT27 byT27 agT27 flT27 fdT27_0 fdT27_1 fdT27_2 fdT27_3 zoT27 szT29 byT29 agT29 flT29 fdT29_0 fdT29_1 fdT29_2 zoT29 szT32 byT32 agT32 elT32 unT32 zoT32 szT38 byT38 agT38 flT38 fdT38_0 fdT38_1 zoT38 szT40 byT40 agT40 flT40 fdT40_0 fdT40_1 zoT40 szT51 byT51 agT51 elT51 unT51 zoT51 szT54 byT54 agT54 elT54 unT54 zoT54 szT60 byT60 agT60 flT60 fdT60_0 fdT60_1 zoT60 szT62 byT62 agT62 flT62 fdT62_0 fdT62_1 zoT62

theorem eqPr (a b : Int) : eqW Tryz.prog 8 62 [.int .i64 a, .int .i64 b] [.int .i64 a, .int .i64 b] = some true := by
  have hs : Tryz.prog.stoodInHeld 62 = false := by kernel_rfl
  have hz : szOf Tryz.prog 2 = some 1 := by kernel_rfl
  have ha : aggT Tryz.prog 2 = some false := by kernel_rfl
  have e1 : ∀ (n : Nat) (x y : Int), eqW Tryz.prog (n + 1) 2 [.int .i64 x] [.int .i64 y] = some (x == y) := fun n x y => by
    unfold eqW
    simp only [Tryz.underlying2]
    first | rfl | simp [eqF]
  unfold eqW
  simp only [Tryz.underlying62, hs]
  simp [eqF, hz, ha, e1]
theorem hitR_len (L : List Sg) : (hitR L).length = (hitP L).length := List.length_map _
theorem onL_len (L : List Sg) (p : Pt) : (onL L p).length ≤ L.length := onN_len L p _
theorem hasOn_fc {L : List Sg} (hl : L.length ≤ 1048576) {k : Nat} (hk : k < L.length) (p : Pt) : FC Tryz.prog 19 [Wd .i64 (onL L p), .int .i64 (k : Int)] (.bool (onF (gq L k) p)) := by
  have h := hasInt_fc (onL L p) (k : Int) (Nat.le_trans (onL_len L p) hl)
  have e : decide ((k : Int) ∈ onL L p) = onF (gq L k) p := by rw [Bool.eq_iff_iff, decide_eq_true_iff]; exact onL_mem hk
  rw [e] at h; exact h

section
attribute [local simp] idf_numS cells_numS numS_fold idf_numI cells_numI numI_fold Sp.av Sp.cells Sg.av Sg.cells Pt.av Pt.cells
set_option maxHeartbeats 16000000 in
theorem fnPairs_fc (l : List Int) (dl : Dig 256 l) : FC Tryz.prog 5 [Wd .u8 l] (.bool true) := by
 refine .b Tryz.func5 133 (fun nx K hK => ?_)
 refine .q ?_
 refine .sq fun K2 hK2 => ?_
 refine .sq fun K3 hK3 => ?_
 refine .region ?_
 refine .kf 1 (big_fc l) hb14 ?_
 refine .nil ?_
 refine hK3 _ ?_
 refine .c (t := decide (1048576 < (l.length : Int))) (fun h19 => ?_) (fun h19 => ?_)
 ·try simp only[dc]at h19
  refine .q ?_
  refine .ret ?_
  exact hK _ _ _ _ trivial ((Fin.mk (r := .bool true) (by simp [aRes, aResL, aRes1]; try rfl)))
 ·try simp only[dc]at h19
  have hl : l.length ≤ 1048576 := by omega
  refine .skip ?_
  refine hK2 _ ?_
  refine .sq fun K5 hK5 => ?_
  refine .region ?_
  refine .k 1 ?_
  refine AOPS.old fun hold1 => ?_
  refine .a (drawCrossPairs_ac l _ _ dl hl hold1) hb30 ?_
  rintro _ _ nx1 ⟨S, i2, rfl, So, Sl, rfl, hi1, hi2⟩
  try simp only [] at hi1 hi2
  clear hold1
  refine .e ?_
  refine hK5 _ ?_
  refine .sq fun K6 hK6 => ?_
  refine AWP.frz1 3 i2 4 (S.map Sg.cells) (.isl (S.map Sg.cells)) (by simp (disch := omega)) (by simp (disch := omega); exact fz_fill Sg.cells S rfl) ?_
  by_cases hz : sgF S = 0
  ·obtain ⟨z1, z2⟩ := sgF_zero hz
   have hl9 : S.length ≤ 1099511627776 := by omega
   have hpb : (hitP S).length ≤ 1680 := by rw [hitP_len]; exact ded_b z1 (Nat.le_refl _)
   refine .region ?_
   refine .kf 1 (crossPairs_fc S hl9 hz) hb31 ?_
   refine .e ?_
   refine hK6 _ ?_
   refine .sq fun K7 hK7 => ?_
   refine .region ?_
   refine .kf 1 (hitsOf_fc S hl9 hz) hb32 ?_
   refine .e ?_
   refine hK7 _ ?_
   refine .sq fun K8 hK8 => ?_
   refine .region ?_
   refine .kf 1 (crossPairsS_fc S hl9 hz) hb33 ?_
   refine .e ?_
   refine hK8 _ ?_
   refine .sq fun K9 hK9 => ?_
   refine .q ?_
   refine .c (t := false) (fun h51 => ?_) (fun h51 => ?_)
   ·simp at h51
   ·try simp only[dc]at h51
    refine .skip ?_
    refine hK9 _ ?_
    refine .q ?_
    refine .sq fun K12 hK12 => ?_
    refine .q ?_
    refine .block ?_
    
    refine .loop (fun N s => ∃ i : Nat, ∃ n : Nat, N = S.length - i ∧ i ≤ S.length ∧ (n = (cpL S i).length) ∧ s.env 3 = .isl (S.map Sg.cells) ∧ s.env 4 = .isl ((cpF S).map prC) ∧ s.env 5 = .bool true ∧ s.env 6 = .isl (hitR S) ∧ s.env 11 = .int .i64 (i : Int) ∧ s.env 10 = .int .i64 (n : Int) ∧ s.nt = 133) (S.length) (by refine ⟨0, 0, by omega, by omega, rfl, ?_, ?_, ?_, ?_, ?_, ?_, rfl⟩ <;> first|(simp (disch := omega);done)|omega|(simp;done)|(simp;omega)) ?_
    rintro N ⟨e, H, mm, nt⟩ ⟨i, n, rfl, hi, hn, g3, g4, g5, g6, g11, g10, rfl⟩
    simp only [] at g3 g4 g5 g6 g11 g10
    refine .sq fun K14 hK14 => ?_
    refine .q ?_ (by simp (disch := first|omega|(simp only[ln];omega)) [g3, g5, g11, List.length_map]; rfl)
    refine .c (fun h58 => ?_) (fun h58 => ?_)
    ·try simp only[dc]at h58
     have hi' : i < S.length := by omega
     have hat0 := gq_get hi'
     have hati : (S.map Sg.cells)[i]? = some (Sg.cells (gq S i)) := by rw [List.getElem?_map, hat0]; rfl
     have haei : ∀ h : i < (S.map Sg.cells).length, (S.map Sg.cells)[i] = Sg.cells (gq S i) := fun h => by rw [List.getElem?_eq_getElem h] at hati; simpa using hati
     have gi := z2 _ (gq_mem hi')
     simp only [Sg.cells] at hati haei
     refine .skip ?_
     refine hK14 _ ?_
     refine .sq fun K16 hK16 => ?_
     refine .block ?_
     refine .q ?_ (by simp (disch := first|omega|(simp only[ln];omega)) [g11]; rfl)
     refine .block ?_
     
     refine .loop (fun N s => ∃ k : Nat, ∃ n : Nat, N = S.length - k ∧ k ≤ S.length ∧ (n = (cpL S i ++ cpR S i k).length) ∧ (i < k) ∧ s.env 3 = .isl (S.map Sg.cells) ∧ s.env 4 = .isl ((cpF S).map prC) ∧ s.env 5 = .bool true ∧ s.env 6 = .isl (hitR S) ∧ s.env 11 = .int .i64 (i : Int) ∧ s.env 12 = .int .i64 (k : Int) ∧ s.env 10 = .int .i64 (n : Int) ∧ s.nt = 133) (S.length - (i + 1)) (by refine ⟨(i + 1), n, by omega, by omega, by rw [cpR_start, List.append_nil]; exact hn, by omega, ?_, ?_, ?_, ?_, ?_, ?_, ?_, rfl⟩ <;> first|(simp (disch := omega) [g3, g4, g5, g6, g11, g10];done)|omega|(simp;done)|(simp;omega)) ?_
     clear g3 g4 g5 g6 g11 g10 hn
     rintro N ⟨e, H, mm, nt⟩ ⟨k, n, rfl, hk, hn, hik, g3, g4, g5, g6, g11, g12, g10, rfl⟩
     simp only [] at g3 g4 g5 g6 g11 g12 g10
     refine .sq fun K18 hK18 => ?_
     refine .q ?_ (by simp (disch := first|omega|(simp only[ln];omega)) [g3, g12, List.length_map]; rfl)
     refine .c (fun h66 => ?_) (fun h66 => ?_)
     ·try simp only[dc]at h66
      have hk' : k < S.length := by omega
      have hnb : n ≤ 1640 := by rw [hn]; exact cp_len z1 (by omega) (by omega)
      have hatk0 := gq_get hk'
      have hatk : (S.map Sg.cells)[k]? = some (Sg.cells (gq S k)) := by rw [List.getElem?_map, hatk0]; rfl
      have haek : ∀ h : k < (S.map Sg.cells).length, (S.map Sg.cells)[k] = Sg.cells (gq S k) := fun h => by rw [List.getElem?_eq_getElem h] at hatk; simpa using hatk
      have gk := z2 _ (gq_mem hk')
      simp only [Sg.cells] at hatk haek
      have hmt := meetF_fc (gq S i) (gq S k)
      have hMe : (mtF meetI (gq S i) (gq S k)).1 = mks S i k := by rw [mtF_good gi gk]; rfl
      obtain ⟨M, hM⟩ : ∃ M, mtF meetI (gq S i) (gq S k) = M := ⟨_, rfl⟩
      rw [hM] at hmt hMe
      obtain ⟨v, hv⟩ : ∃ v, v = mks S i k := ⟨_, rfl⟩
      rw [← hv] at hMe
      refine .skip ?_
      refine hK18 _ ?_
      refine .sq fun K20 hK20 => ?_
      refine .block ?_
      refine .sq fun K21 hK21 => ?_
      refine .old fun hold => ?_
      refine .d 15 ?_
      refine .k 8 (fun fs22 hfs22 => ?_) (by simp (disch := first|omega|(simp only[ln];omega)) [runDf.eq_def, runF1, runF2, stepF.eq_def, updo.eq_def, hupo.eq_def, opSto1.eq_def, List.take_succ_cons, List.take_zero, if_pos, g3, g4, g5, g6, g11, g12, g10, hati, haei, hatk, haek, hi', hk', List.length_map]; rfl)
      refine .f hmt hb34 ?_ (ha := by simp (disch := first|omega|(simp only[ln];omega)) [idf_Wd', if_pos, g3, g4, g5, g6, g11, g12, g10, hati, haei, hatk, haek, hi', hk', List.length_map])
      refine .k 3 (fun fs23 hfs23 => ?_) (by simp (disch := first|omega|(simp only[ln];omega)) [runDf.eq_def, runF1, runF2, stepF.eq_def, updo.eq_def, hupo.eq_def, opSto1.eq_def, List.take_succ_cons, List.take_zero, if_pos, g3, g4, g5, g6, g11, g12, g10, hati, haei, hatk, haek, hi', hk', List.length_map]; rfl)
      refine DP.runF1q (by simp (disch := first|omega|(simp only[ln];omega)) [runDf.eq_def, runF1, runF2, stepF.eq_def, updo.eq_def, hupo.eq_def, opSto1.eq_def, if_pos, g3, g4, g5, g6, g11, g12, g10, hati, haei, hatk, haek, hi', hk', List.length_map]; rfl) fun fq24 hfq24 => ?_
      simp [qids, asksB, Op.operands, topId] at hfq24
      simp only [updo]
      refine .k 2 (fun fs25 hfs25 => ?_) (by simp (disch := first|omega|(simp only[ln];omega)) [runDf.eq_def, runF1, runF2, stepF.eq_def, updo.eq_def, hupo.eq_def, opSto1.eq_def, List.take_succ_cons, List.take_zero, if_pos, g3, g4, g5, g6, g11, g12, g10, hati, haei, hatk, haek, hi', hk', List.length_map]; rfl)
      refine DQ.asg1 _ rfl rfl ?_
      simp only [updo]
      refine DQ.sto1 (m := 15) [12] _ (by simp (disch := first|omega|(simp only[ln];omega)) [runDf.eq_def, runF1, runF2, stepF.eq_def, updo.eq_def, hupo.eq_def, opSto1.eq_def, if_pos, g3, g4, g5, g6, g11, g12, g10, hati, haei, hatk, haek, hi', hk', List.length_map]; rfl) rfl (by simp only[ln, hfs22, hfs23, hfs25];omega) (by kernel_rfl) (by intro k f hk hex; simp only [List.mem_cons, List.not_mem_nil, or_false] at hex; rcases hex with rfl <;> (simp [List.getElem?_append, hfs22, hfs23, hfs25] at hk; subst hk; refine ⟨?_, by first | omega | (simp; done) | (simp; omega)⟩; simp [qids, asksB, Op.operands, Call.operands, topId, numS, numI, Wd, hfq24]; try omega)) ?_
      try simp only []
      refine DQ.sto1 (m := 15) [] _ (by simp (disch := first|omega|(simp only[ln];omega)) [runDf.eq_def, runF1, runF2, stepF.eq_def, updo.eq_def, hupo.eq_def, opSto1.eq_def, if_pos, g3, g4, g5, g6, g11, g12, g10, hati, haei, hatk, haek, hi', hk', List.length_map]; rfl) rfl (by simp only[ln, hfs22, hfs23, hfs25];omega) (by kernel_rfl) (by intro k f hk hex; simp only [List.not_mem_nil] at hex) ?_
      try simp only []
      refine hK21 _ ?_
      refine .q ?_
      refine .sq fun K27 hK27 => ?_
      refine .q ?_
      refine .block ?_
      
      refine .loop (fun N s => ∃ h : Nat, N = (hitP S).length - h ∧ h ≤ (hitP S).length ∧ s.env 3 = .isl (S.map Sg.cells) ∧ s.env 4 = .isl ((cpF S).map prC) ∧ s.env 5 = .bool true ∧ s.env 6 = .isl (hitR S) ∧ s.env 11 = .int .i64 (i : Int) ∧ s.env 12 = .int .i64 (k : Int) ∧ s.env 10 = .int .i64 (n : Int) ∧ s.env 13 = .int .i64 v ∧ s.env 16 = .bool (inB S i k h) ∧ s.env 17 = .int .i64 (h : Int) ∧ s.nt = 133) ((hitP S).length) (by refine ⟨0, by omega, by omega, ?_, ?_, ?_, ?_, ?_, ?_, ?_, ?_, ?_, ?_, rfl⟩ <;> first|(simp (disch := omega) [g3, g4, g5, g6, g11, g12, g10, hMe, inB_zero];done)|omega|(simp;done)|(simp;omega)) ?_
      clear g3 g4 g5 g6 g11 g12 g10
      rintro N ⟨e, H, mm, nt⟩ ⟨h, rfl, hh, g3, g4, g5, g6, g11, g12, g10, g13, g16, g17, rfl⟩
      simp only [] at g3 g4 g5 g6 g11 g12 g10 g13 g16 g17
      refine .sq fun K29 hK29 => ?_
      refine .q ?_ (by simp (disch := first|omega|(simp only[ln];omega)) [g6, g17, hitR_len]; rfl)
      refine .c (fun h85 => ?_) (fun h85 => ?_)
      ·try simp only[dc]at h85
       have hh' : h < (hitP S).length := by omega
       obtain ⟨g, hg⟩ : ∃ g, (hitP S)[h]? = some g := ⟨_, List.getElem?_eq_getElem hh'⟩
       have hath : (hitR S)[h]? = some (hitC S g) := by unfold hitR; rw [List.getElem?_map, hg]; rfl
       have haeh : ∀ h2 : h < (hitR S).length, (hitR S)[h] = hitC S g := fun h2 => by rw [List.getElem?_eq_getElem h2] at hath; simpa using hath
       simp only [hitC, Pt.cells, List.cons_append, List.nil_append] at hath haeh
       have hsl : S.length ≤ 1048576 := by omega
       have fI := hasOn_fc hsl hi' g.1
       have fK := hasOn_fc hsl hk' g.1
       refine .skip ?_
       refine hK29 _ ?_
       refine .sq fun K31 hK31 => ?_
       refine .block ?_
       cases hb : inB S i k h
       ·cases c1 : onF (gq S i) g.1
        ·rw [c1] at fI
         refine .region ?_
         refine .kf 8 fI hb19 ?_ (by simp (disch := first|omega|(simp only[ln];omega)) [List.take_succ_cons, List.take_zero, if_pos, hath, haeh, hh', hitR_len, g3, g4, g5, g6, g11, g12, g10, g13, g16, g17, hb]; rfl) (ha := by simp (disch := first|omega|(simp only[ln];omega)) [idf_Wd', if_pos, hath, haeh, hh', hitR_len, g3, g4, g5, g6, g11, g12, g10, g13, g16, g17, hb])
         refine .e ?_ (by simp (disch := first|omega|(simp only[ln];omega)) [if_pos, hath, haeh, hh', hitR_len, g3, g4, g5, g6, g11, g12, g10, g13, g16, g17, hb]; rfl)
         refine hK31 _ ?_
         refine .r ?_ (by simp (disch := first|omega|(simp only[ln];omega)) [g17]; rfl)
         refine ⟨(hitP S).length - (h + 1), by omega, h + 1, rfl, by omega, ?_, ?_, ?_, ?_, ?_, ?_, ?_, ?_, ?_, ?_, rfl⟩ <;> first|(simp (disch := omega) [g3, g4, g5, g6, g11, g12, g10, g13, g16, g17, inB_step hg, hb, c1];done)|omega|(simp;done)|(simp;omega)
        ·rw [c1] at fI
         refine .region ?_
         refine .kf 8 fI hb19 ?_ (by simp (disch := first|omega|(simp only[ln];omega)) [List.take_succ_cons, List.take_zero, if_pos, hath, haeh, hh', hitR_len, g3, g4, g5, g6, g11, g12, g10, g13, g16, g17, hb]; rfl) (ha := by simp (disch := first|omega|(simp only[ln];omega)) [idf_Wd', if_pos, hath, haeh, hh', hitR_len, g3, g4, g5, g6, g11, g12, g10, g13, g16, g17, hb])
         refine .kf 7 fK hb19 ?_ (by simp (disch := first|omega|(simp only[ln];omega)) [List.take_succ_cons, List.take_zero, if_pos, hath, haeh, hh', hitR_len, g3, g4, g5, g6, g11, g12, g10, g13, g16, g17, hb]; rfl) (ha := by simp (disch := first|omega|(simp only[ln];omega)) [idf_Wd', if_pos, hath, haeh, hh', hitR_len, g3, g4, g5, g6, g11, g12, g10, g13, g16, g17, hb])
         refine .e ?_ (by simp (disch := first|omega|(simp only[ln];omega)) [if_pos, hath, haeh, hh', hitR_len, g3, g4, g5, g6, g11, g12, g10, g13, g16, g17, hb]; rfl)
         refine hK31 _ ?_
         refine .r ?_ (by simp (disch := first|omega|(simp only[ln];omega)) [g17]; rfl)
         refine ⟨(hitP S).length - (h + 1), by omega, h + 1, rfl, by omega, ?_, ?_, ?_, ?_, ?_, ?_, ?_, ?_, ?_, ?_, rfl⟩ <;> first|(simp (disch := omega) [g3, g4, g5, g6, g11, g12, g10, g13, g16, g17, inB_step hg, hb, c1];done)|omega|(simp;done)|(simp;omega)
       ·refine .r ?_ (by simp (disch := first|omega|(simp only[ln];omega)) [if_pos, hath, haeh, hh', hitR_len, g3, g4, g5, g6, g11, g12, g10, g13, g16, g17, hb]; rfl)
        refine hK31 _ ?_
        refine .r ?_ (by simp (disch := first|omega|(simp only[ln];omega)) [g17]; rfl)
        refine ⟨(hitP S).length - (h + 1), by omega, h + 1, rfl, by omega, ?_, ?_, ?_, ?_, ?_, ?_, ?_, ?_, ?_, ?_, rfl⟩ <;> first|(simp (disch := omega) [g3, g4, g5, g6, g11, g12, g10, g13, g16, g17, inB_step hg, hb];done)|omega|(simp;done)|(simp;omega)
      ·try simp only[dc]at h85
       have hhn : h = (hitP S).length := by omega
       have hall := inB_all z2 hk' hik
       rw [← hhn] at hall
       refine .exit ?_
       refine hK27 _ ?_
       refine .sq fun K32 hK32 => ?_
       refine .sq fun K33 hK33 => ?_
       by_cases hmk : mks S i k = 0
       ·rw [decide_eq_true hmk, Bool.not_true] at hall
        have hv0 : v = 0 := hv.trans hmk
        refine .r ?_ (by simp (disch := first|omega|(simp only[ln];omega)) [g13, g16, hall, hv0]; rfl)
        refine hK33 _ ?_
        refine .c (t := false) (fun h110 => ?_) (fun h110 => ?_)
        ·simp at h110
        ·try simp only[dc]at h110
         refine .skip ?_
         refine hK32 _ ?_
         refine .sq fun K34 hK34 => ?_
         refine .q ?_ (by simp (disch := first|omega|(simp only[ln];omega)) [g16, hall]; rfl)
         refine .c (t := true) (fun h112 => ?_) (fun h112 => ?_)
         ·try simp only[dc]at h112
          refine .exit ?_
          refine hK20 _ ?_
          refine .r ?_ (by simp (disch := first|omega|(simp only[ln];omega)) [g12]; rfl)
          refine ⟨S.length - (k + 1), by omega, k + 1, n, rfl, by omega, by rw [cpR_no hmk]; exact hn, by omega, ?_, ?_, ?_, ?_, ?_, ?_, ?_, rfl⟩ <;> first|(simp (disch := omega) [g3, g4, g5, g6, g11, g12, g10, g13, g16, g17];done)|omega|(simp;done)|(simp;omega)
         ·simp at h112
       ·rw [decide_eq_false hmk, Bool.not_false] at hall
        have hv0 : v ≠ 0 := fun e => hmk (hv.symm.trans e)
        have hv1 : (v == 0) = false := by simpa using hv0
        have hv2 : (v != 0) = true := by simp [bne, hv1]
        refine .r ?_ (by simp (disch := first|omega|(simp only[ln];omega)) [g13, g16, hall, hv0, hv1, hv2]; rfl)
        refine hK33 _ ?_
        refine .c (t := false) (fun h110 => ?_) (fun h110 => ?_)
        ·simp at h110
        ·try simp only[dc]at h110
         refine .skip ?_
         refine hK32 _ ?_
         refine .sq fun K36 hK36 => ?_
         refine .q ?_ (by simp (disch := first|omega|(simp only[ln];omega)) [g16, hall]; rfl)
         refine .c (t := false) (fun h112 => ?_) (fun h112 => ?_)
         ·simp at h112
         ·try simp only[dc]at h112
          refine .skip ?_
          refine hK36 _ ?_
          refine .sq fun K38 hK38 => ?_
          have hca := cp_at hi' hk' hik hmk
          rw [← hn] at hca
          have hnl : n < (cpF S).length := by
            rcases Nat.lt_or_ge n (cpF S).length with h1 | h1
            · exact h1
            · rw [List.getElem?_eq_none h1] at hca; simp at hca
          have hatp : ((cpF S).map prC)[n]? = some [.int .i64 (i : Int), .int .i64 (k : Int)] := by rw [List.getElem?_map, hca]; rfl
          have haep : ∀ h2 : n < ((cpF S).map prC).length, ((cpF S).map prC)[n] = [.int .i64 (i : Int), .int .i64 (k : Int)] := fun h2 => by rw [List.getElem?_eq_getElem h2] at hatp; simpa using hatp
          have hge : decide ((cpF S).length ≤ n) = false := by simp; omega
          refine .q ?_ (by simp (disch := first|omega|(simp only[ln];omega)) [if_pos, g3, g4, g5, g6, g11, g12, g10, g13, g16, g17, hatp, haep, hnl, hge, eqPr, List.length_map]; rfl)
          refine .c (t := false) (fun h126 => ?_) (fun h126 => ?_)
          ·simp at h126
          ·try simp only[dc]at h126
           refine .skip ?_
           refine hK38 _ ?_
           refine .r ?_ (by simp (disch := first|omega|(simp only[ln];omega)) [g10]; rfl)
           refine hK20 _ ?_
           refine .r ?_ (by simp (disch := first|omega|(simp only[ln];omega)) [g12]; rfl)
           refine ⟨S.length - (k + 1), by omega, k + 1, (n + 1), rfl, by omega, by rw [cpR_yes hik hmk, ← List.append_assoc, List.length_append, ← hn]; rfl, by omega, ?_, ?_, ?_, ?_, ?_, ?_, ?_, rfl⟩ <;> first|(simp (disch := omega) [g3, g4, g5, g6, g11, g12, g10, g13, g16, g17];done)|omega|(simp;done)|(simp;omega)
     ·try simp only[dc]at h66
      have hkn : k = S.length := by omega
      have hn' : n = (cpL S (i + 1)).length := by rw [hn, hkn, ← cpL_step]
      refine .exit ?_
      refine hK16 _ ?_
      refine .r ?_ (by simp (disch := first|omega|(simp only[ln];omega)) [g11]; rfl)
      refine ⟨S.length - (i + 1), by omega, i + 1, n, rfl, by omega, hn', ?_, ?_, ?_, ?_, ?_, ?_, rfl⟩ <;> first|(simp (disch := omega) [g3, g4, g5, g6, g11, g10];done)|omega|(simp;done)|(simp;omega)
    ·try simp only[dc]at h58
     have hin : i = S.length := by omega
     have hcp : n = (cpF S).length := by rw [hn, cpF_all S i hin]
     refine .exit ?_
     refine hK12 _ ?_
     refine .q ?_ (by simp (disch := first|omega|(simp only[ln];omega)) [g4, g10, hcp, List.length_map]; rfl)
     refine .ret ?_
     exact hK _ _ _ _ trivial ((Fin.mk (r := .bool true) (by simp [aRes, aResL, aRes1]; try rfl)))
  ·have hl9 : S.length ≤ 1099511627776 := by omega
   refine .region ?_
   refine .kf 1 (crossPairs_no S hl9 hz) hb31 ?_
   refine .e ?_
   refine hK6 _ ?_
   refine .sq fun K41 hK41 => ?_
   refine .region ?_
   refine .kf 1 (hitsOf_no S hl9 hz) hb32 ?_
   refine .e ?_
   refine hK41 _ ?_
   refine .sq fun K42 hK42 => ?_
   refine .region ?_
   refine .kf 1 (crossPairsS_no S hl9 hz) hb33 ?_
   refine .e ?_
   refine hK42 _ ?_
   refine .sq fun K43 hK43 => ?_
   refine .q ?_
   refine .c (t := false) (fun h51 => ?_) (fun h51 => ?_)
   ·simp at h51
   ·try simp only[dc]at h51
    refine .skip ?_
    refine hK43 _ ?_
    refine .q ?_
    refine .sq fun K46 hK46 => ?_
    refine .q ?_
    refine .block ?_
    
    refine .loop (fun N s => ∃ i : Nat, N = 0 - i ∧ i ≤ 0 ∧ s.env 4 = .nsl ∧ s.env 5 = .bool false ∧ s.env 10 = .int .i64 0 ∧ s.env 11 = .int .i64 (i : Int) ∧ s.nt = 133) (0) (by refine ⟨0, by omega, by omega, ?_, ?_, ?_, ?_, rfl⟩ <;> first|(simp (disch := omega);done)|omega|(simp;done)|(simp;omega)) ?_
    rintro N ⟨e, H, mm, nt⟩ ⟨i, rfl, hi, g4, g5, g10, g11, rfl⟩
    simp only [] at g4 g5 g10 g11
    refine .sq fun K48 hK48 => ?_
    refine .q ?_ (by simp (disch := first|omega|(simp only[ln];omega)) [g5]; rfl)
    refine .c (t := false) (fun h58 => ?_) (fun h58 => ?_)
    ·simp at h58
    ·try simp only[dc]at h58
     refine .exit ?_
     refine hK46 _ ?_
     refine .q ?_ (by simp (disch := first|omega|(simp only[ln];omega)) [g4, g10]; rfl)
     refine .ret ?_
     exact hK _ _ _ _ trivial ((Fin.mk (r := .bool true) (by simp [aRes, aResL, aRes1]; try rfl)))
end

end Go.Proofs.YtaibemhdfhchfaaGreat
