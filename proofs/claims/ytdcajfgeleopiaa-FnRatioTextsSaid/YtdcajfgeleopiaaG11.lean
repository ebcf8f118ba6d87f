/- Walks: drawn numbers in four words. -/
import Derived.Test.YtdcajfgeleopiaaG10

namespace Go.Proofs.Ytdcajfgeleopiaa
open Go Go.RowKit
set_option linter.unusedSimpArgs false
set_option linter.unusedVariables false
set_option maxRecDepth 100000
attribute [local simp] szT2 byT2 agT2 unT2 zoT2 szT3 byT3 agT3 unT3 zoT3 szT24 byT24 agT24 unT24 zoT24 szT26 byT26 agT26 flT26 fdT26_0 fdT26_1 fdT26_2 fdT26_3 zoT26 szT78 byT78 agT78 elT78 unT78 zoT78 szT148 byT148 agT148 unT148 zoT148 szT149 byT149 agT149 unT149 zoT149 szT179 byT179 agT179 elT179 unT179 zoT179 szT180 byT180 agT180 elT180 unT180 zoT180

section
attribute [local simp] idf_numS cells_numS numS_fold
set_option maxHeartbeats 4000000 in
theorem wide_ac (l : List Int) (p id : Nat) (H : Heap) (nx : Nat) (dl : Dig 256 l) (hl : l.length ≤ 1048576) (hp : p ≤ l.length) (hH : H id = some (2, [[Wd .u8 l, .int .i64 (p : Int)]])) (hd : ∀ i q, H i = some q → i < nx) : ACall Try.prog 103 [.ptr id 0 0] H nx (fun r H' nx' => (∃ x : W4, r = .agg [.int .u64 (x).a, .int .u64 (x).b, .int .u64 (x).c, .int .u64 (x).d] ∧ x.ok) ∧ (∃ p' : Nat, p' ≤ l.length ∧ H' = hupd H id (some (2, [[Wd .u8 l, .int .i64 (p' : Int)]]))) ∧ nx ≤ nx') := by
 have hid := hd id _ hH
 have t7l : tab7.length = 7 := rfl
 have hTl : (tab6.map W4.l).length = 6 := rfl
 obtain ⟨T, hT0⟩ : ∃ T, List.map W4.l tab6 = T := ⟨_, rfl⟩
 have hTx := gt6_get
 rw [hT0] at hTl hTx
 have hTy : ∀ (k : Nat) (h : k < T.length), T[k] = [.int .u64 (gt6 k).a, .int .u64 (gt6 k).b, .int .u64 (gt6 k).c, .int .u64 (gt6 k).d] := fun k h => by
   have := hTx k (by omega)
   rw [List.getElem?_eq_getElem h] at this
   simpa using this
 clear hTx
 refine .b Try.func103 85 fun K hK => ?_
 refine .q ?_
 refine .sq fun K2 hK2 => ?_
 refine .sq fun K3 hK3 => ?_
 refine .region ?_
 refine .k 1 ?_ (by simp (disch := first|omega|(simp only[ln];omega)) [List.take_succ_cons, List.take_zero, hH]; rfl)
 refine AOPS.old fun hold1 => ?_
 refine .a (below_ac 9 (by omega) (by omega) l p id _ _ dl hl hp (by simp (disch := omega) [hH]) hold1) hb63 ?_ (ha := by simp (disch := first|omega|(simp only[ln];omega)) [idf_Wd', hH])
 rintro _ _ nx2 ⟨⟨k, rfl, k0, k1⟩, ⟨p2, hp2, rfl⟩, hnx2⟩
 try simp only [] at hnx2
 clear hold1
 refine .nil ?_
 refine hK3 _ ?_
 refine .block ?_
 refine .q ?_
 refine .c (t := k == 0) (fun h9 => ?_) (fun h9 => ?_)
 ·try simp only[dc]at h9
  refine .sq fun K5 hK5 => ?_
  refine .region ?_
  refine .k 2 ?_ (by simp (disch := first|omega|(simp only[ln];omega)) [List.take_succ_cons, List.take_zero, idx_WdD (P := Try.prog) elT179 szT2, if_pos, t7l]; rfl)
  refine AOPS.frz1 11 nx2 1 (wd .i64 tab7) (Wd .i64 tab7) (by simp; rfl) (by simp; first | exact fz_wd rfl | exact isl_take_wd (by decide)) ?_
  refine AOPS.old fun hold2 => ?_
  refine .a (below_ac 7 (by omega) (by omega) l p2 id _ _ dl hl hp2 (by simp (disch := omega) [hH]) hold2) hb63 ?_ (ha := by simp (disch := first|omega|(simp only[ln];omega)) [idf_Wd', idx_WdD (P := Try.prog) elT179 szT2, if_pos, t7l])
  rintro _ _ nx3 ⟨⟨k7, rfl, k70, k71⟩, ⟨p3, hp3, rfl⟩, hnx3⟩
  try simp only [] at hnx3
  clear hold2
  have hk7 : k7.toNat < 7 := by omega
  refine .kf 2 (wideOfS_fc (gt tab7 k7.toNat) (tab7_b _).1 (tab7_b _).2) hb105 ?_ (by simp (disch := first|omega|(simp only[ln];omega)) [List.take_succ_cons, List.take_zero, idx_WdD (P := Try.prog) elT179 szT2, if_pos, t7l]; rfl) (ha := by simp (disch := first|omega|(simp only[ln];omega)) [idf_Wd', idx_WdD (P := Try.prog) elT179 szT2, if_pos, t7l])
  refine .e ?_ (by simp (disch := first|omega|(simp only[ln];omega)) [idx_WdD (P := Try.prog) elT179 szT2, if_pos, t7l]; rfl)
  refine hK5 _ ?_
  refine .ret ?_
  exact hK _ _ _ _ _ trivial ((Fin.mk (r := .agg [.int .u64 (W4z (gt tab7 k7.toNat)).a, .int .u64 (W4z (gt tab7 k7.toNat)).b, .int .u64 (W4z (gt tab7 k7.toNat)).c, .int .u64 (W4z (gt tab7 k7.toNat)).d]) (by simp (disch := omega) [aRes, aResL, aRes1])).restr (fun i => decide (i < nx))) (⟨⟨W4z (gt tab7 k7.toNat), rfl, W4z_ok _⟩, ⟨p3, hp3, by simp (disch := first | omega | (simp; done) | (simp; omega)) [hrestr_in, hrestr_out, hrestr_all hd, hupd_same]⟩, by first | omega | (simp at *; omega)⟩)
 ·try simp only[dc]at h9
  refine .q ?_
  refine .c (t := k == 1) (fun h17 => ?_) (fun h17 => ?_)
  ·try simp only[dc]at h17
   refine .sq fun K7 hK7 => ?_
   refine .region ?_
   refine .k 8 ?_ (by simp (disch := first|omega|(simp only[ln];omega)) [List.take_succ_cons, List.take_zero, if_pos, hTl, hTy]; rfl)
   refine AOPS.frz1 25 nx2 4 T (.isl T) (by simp [← hT0, tab6, W4.l]) (by simp; rw [← hT0]; exact fz_fill W4.l tab6 rfl) ?_
   refine AOPS.old fun hold8 => ?_
   refine .a (below_ac 6 (by omega) (by omega) l p2 id _ _ dl hl hp2 (by simp (disch := omega) [hH]) hold8) hb63 ?_ (ha := by simp (disch := first|omega|(simp only[ln];omega)) [idf_Wd', if_pos, hTl, hTy])
   rintro _ _ nx3 ⟨⟨k6, rfl, k60, k61⟩, ⟨p3, hp3, rfl⟩, hnx3⟩
   try simp only [] at hnx3
   clear hold8
   have hk6 : k6.toNat < 6 := by omega
   refine .e ?_ (by simp (disch := first|omega|(simp only[ln];omega)) [if_pos, hTl, hTy]; rfl)
   refine hK7 _ ?_
   refine .ret ?_
   exact hK _ _ _ _ _ trivial ((Fin.mk (r := .agg [.int .u64 (gt6 k6.toNat).a, .int .u64 (gt6 k6.toNat).b, .int .u64 (gt6 k6.toNat).c, .int .u64 (gt6 k6.toNat).d]) (by simp (disch := omega) [aRes, aResL, aRes1])).restr (fun i => decide (i < nx))) (⟨⟨gt6 k6.toNat, rfl, gt6_ok _⟩, ⟨p3, hp3, by simp (disch := first | omega | (simp; done) | (simp; omega)) [hrestr_in, hrestr_out, hrestr_all hd, hupd_same]⟩, by first | omega | (simp at *; omega)⟩)
  ·try simp only[dc]at h17
   refine .q ?_
   refine .c (t := k == 2) (fun h30 => ?_) (fun h30 => ?_)
   ·try simp only[dc]at h30
    refine .sq fun K9 hK9 => ?_
    refine .region ?_
    refine .k 1 ?_
    refine AOPS.old fun hold1 => ?_
    refine .a (once_ac 2 (by omega) (by omega) l p2 id _ _ dl hl hp2 (by simp (disch := omega) [hH]) hold1) hb102 ?_
    rintro _ _ nx3 ⟨⟨b, rfl⟩, ⟨p3, hp3, rfl⟩, hnx3⟩
    try simp only [] at hnx3
    clear hold1
    refine .k 2 ?_
    refine AOPS.frz1 35 nx3 1 (wd .u32 [1]) (Wd .u32 [1]) (by simp) (by simp; first | exact fz_wd rfl | exact isl_take_wd (by simp)) ?_
    refine AOPS.old fun hold4 => ?_
    refine .a (below_ac 255 (by omega) (by omega) l p3 id _ _ dl hl hp3 (by simp (disch := omega) [hH]) hold4) hb63 ?_
    rintro _ _ nx4 ⟨⟨k8, rfl, k80, k81⟩, ⟨p4, hp4, rfl⟩, hnx4⟩
    try simp only [] at hnx4
    clear hold4
    obtain ⟨K8, rfl⟩ := Int.eq_ofNat_of_zero_le k80
    have hL := l1LeftI 1 K8 (by omega) (by rw [show ((1 : Nat) : Int) = 1 from rfl, dg_one]; simp)
    rw [show ((1 : Nat) : Int) = 1 from rfl, dg_one] at hL
    have bP := bg_pow K8 (by omega) b
    have bP0 := bg_pow K8 (by omega) false
    have hT := l1Trim_fc b (dg ((1 * 2 ^ K8 : Nat) : Int)) (by have := bP0.len32; rw [sg_false] at this; omega) (dg_dig _)
    rw [dg_val, Int.natAbs_natCast] at hT
    have hWd := l1Wide_fc bP (by omega)
    rw [wdT_l] at hWd
    unfold W4.l at hWd
    refine .f hL hb152 ?_
    refine .f hT hb116 ?_
    refine .f hWd hb151 ?_
    refine .e ?_
    refine hK9 _ ?_
    refine .q ?_
    refine .ret ?_
    exact hK _ _ _ _ _ trivial ((Fin.mk (r := .agg [.int .u64 (W4z (sg b ((1 * 2 ^ K8 : Nat) : Int))).a, .int .u64 (W4z (sg b ((1 * 2 ^ K8 : Nat) : Int))).b, .int .u64 (W4z (sg b ((1 * 2 ^ K8 : Nat) : Int))).c, .int .u64 (W4z (sg b ((1 * 2 ^ K8 : Nat) : Int))).d]) (by simp (disch := omega) [aRes, aResL, aRes1])).restr (fun i => decide (i < nx))) (⟨⟨W4z (sg b ((1 * 2 ^ K8 : Nat) : Int)), rfl, W4z_ok _⟩, ⟨p4, hp4, by simp (disch := first | omega | (simp; done) | (simp; omega)) [hrestr_in, hrestr_out, hrestr_all hd, hupd_same]⟩, by first | omega | (simp at *; omega)⟩)
   ·try simp only[dc]at h30
    refine .q ?_
    refine .c (t := k == 3) (fun h44 => ?_) (fun h44 => ?_)
    ·try simp only[dc]at h44
     refine .sq fun K12 hK12 => ?_
     refine .region ?_
     refine .k 1 ?_
     refine AOPS.old fun hold1 => ?_
     refine .a (word_ac l p2 id _ _ dl hl hp2 (by simp (disch := omega) [hH]) hold1) hb126 ?_
     rintro _ _ nx3 ⟨⟨wa, rfl, wau⟩, ⟨p3, hp3, rfl⟩, hnx3⟩
     try simp only [] at hnx3
     clear hold1
     refine .k 1 ?_
     refine AOPS.old fun hold3 => ?_
     refine .a (word_ac l p3 id _ _ dl hl hp3 (by simp (disch := omega) [hH]) hold3) hb126 ?_
     rintro _ _ nx4 ⟨⟨wb, rfl, wbu⟩, ⟨p4, hp4, rfl⟩, hnx4⟩
     try simp only [] at hnx4
     clear hold3
     refine .k 1 ?_
     refine AOPS.old fun hold5 => ?_
     refine .a (word_ac l p4 id _ _ dl hl hp4 (by simp (disch := omega) [hH]) hold5) hb126 ?_
     rintro _ _ nx5 ⟨⟨wc, rfl, wcu⟩, ⟨p5, hp5, rfl⟩, hnx5⟩
     try simp only [] at hnx5
     clear hold5
     refine .k 1 ?_
     refine AOPS.old fun hold7 => ?_
     refine .a (word_ac l p5 id _ _ dl hl hp5 (by simp (disch := omega) [hH]) hold7) hb126 ?_
     rintro _ _ nx6 ⟨⟨wd, rfl, wdu⟩, ⟨p6, hp6, rfl⟩, hnx6⟩
     try simp only [] at hnx6
     clear hold7
     refine .e ?_
     refine hK12 _ ?_
     refine .ret ?_
     exact hK _ _ _ _ _ trivial ((Fin.mk (r := .agg [.int .u64 (⟨wa, wb, wc, wd⟩ : W4).a, .int .u64 (⟨wa, wb, wc, wd⟩ : W4).b, .int .u64 (⟨wa, wb, wc, wd⟩ : W4).c, .int .u64 (⟨wa, wb, wc, wd⟩ : W4).d]) (by simp (disch := omega) [aRes, aResL, aRes1])).restr (fun i => decide (i < nx))) (⟨⟨⟨wa, wb, wc, wd⟩, rfl, ⟨wau, wbu, wcu, wdu⟩⟩, ⟨p6, hp6, by simp (disch := first | omega | (simp; done) | (simp; omega)) [hrestr_in, hrestr_out, hrestr_all hd, hupd_same]⟩, by first | omega | (simp at *; omega)⟩)
    ·try simp only[dc]at h44
     refine .q ?_
     refine .c (t := k == 4) (fun h55 => ?_) (fun h55 => ?_)
     ·try simp only[dc]at h55
      refine .sq fun K14 hK14 => ?_
      refine .region ?_
      refine .k 1 ?_ (by simp (disch := first|omega|(simp only[ln];omega)) [List.take_succ_cons, List.take_zero, IntKind.bits]; rfl)
      refine AOPS.old fun hold1 => ?_
      refine .a (word_ac l p2 id _ _ dl hl hp2 (by simp (disch := omega) [hH]) hold1) hb126 ?_ (ha := by simp (disch := first|omega|(simp only[ln];omega)) [idf_Wd', IntKind.bits])
      rintro _ _ nx3 ⟨⟨wa, rfl, wau⟩, ⟨p3, hp3, rfl⟩, hnx3⟩
      try simp only [] at hnx3
      clear hold1
      refine .k 1 ?_ (by simp (disch := first|omega|(simp only[ln];omega)) [List.take_succ_cons, List.take_zero, IntKind.bits]; rfl)
      refine AOPS.old fun hold3 => ?_
      refine .a (below_ac 64 (by omega) (by omega) l p3 id _ _ dl hl hp3 (by simp (disch := omega) [hH]) hold3) hb63 ?_ (ha := by simp (disch := first|omega|(simp only[ln];omega)) [idf_Wd', IntKind.bits])
      rintro _ _ nx4 ⟨⟨k9, rfl, k90, k91⟩, ⟨p4, hp4, rfl⟩, hnx4⟩
      try simp only [] at hnx4
      clear hold3
      obtain ⟨K9, rfl⟩ := Int.eq_ofNat_of_zero_le k90
      have us := shr_U64 wau K9
      refine .k 3 ?_ (by simp (disch := first|omega|(simp only[ln];omega)) [List.take_succ_cons, List.take_zero, IntKind.bits]; rfl)
      refine AOPS.old fun hold7 => ?_
      refine .a (word_ac l p4 id _ _ dl hl hp4 (by simp (disch := omega) [hH]) hold7) hb126 ?_ (ha := by simp (disch := first|omega|(simp only[ln];omega)) [idf_Wd', IntKind.bits])
      rintro _ _ nx5 ⟨⟨wb, rfl, wbu⟩, ⟨p5, hp5, rfl⟩, hnx5⟩
      try simp only [] at hnx5
      clear hold7
      refine .e ?_ (by simp (disch := first|omega|(simp only[ln];omega)) [IntKind.bits]; rfl)
      refine hK14 _ ?_
      refine .ret ?_
      exact hK _ _ _ _ _ trivial ((Fin.mk (r := .agg [.int .u64 (⟨0, 0, wa.fdiv (2 ^ K9), wb⟩ : W4).a, .int .u64 (⟨0, 0, wa.fdiv (2 ^ K9), wb⟩ : W4).b, .int .u64 (⟨0, 0, wa.fdiv (2 ^ K9), wb⟩ : W4).c, .int .u64 (⟨0, 0, wa.fdiv (2 ^ K9), wb⟩ : W4).d]) (by simp (disch := omega) [aRes, aResL, aRes1])).restr (fun i => decide (i < nx))) (⟨⟨⟨0, 0, wa.fdiv (2 ^ K9), wb⟩, rfl, ⟨by unfold U64; simp, by unfold U64; simp, us, wbu⟩⟩, ⟨p5, hp5, by simp (disch := first | omega | (simp; done) | (simp; omega)) [hrestr_in, hrestr_out, hrestr_all hd, hupd_same]⟩, by first | omega | (simp at *; omega)⟩)
     ·try simp only[dc]at h55
      refine .q ?_
      refine .c (t := k == 5) (fun h66 => ?_) (fun h66 => ?_)
      ·try simp only[dc]at h66
       refine .sq fun K16 hK16 => ?_
       refine .region ?_
       refine .k 1 ?_
       refine AOPS.old fun hold1 => ?_
       refine .a (word_ac l p2 id _ _ dl hl hp2 (by simp (disch := omega) [hH]) hold1) hb126 ?_
       rintro _ _ nx3 ⟨⟨wa, rfl, wau⟩, ⟨p3, hp3, rfl⟩, hnx3⟩
       try simp only [] at hnx3
       clear hold1
       have ia := wrap_I64 wa
       refine .kf 1 (l1Int_fc (IntKind.i64.wrap wa) ia.1 ia.2) hb56 ?_
       refine .k 1 ?_
       refine AOPS.old fun hold5 => ?_
       refine .a (word_ac l p3 id _ _ dl hl hp3 (by simp (disch := omega) [hH]) hold5) hb126 ?_
       rintro _ _ nx4 ⟨⟨wb, rfl, wbu⟩, ⟨p4, hp4, rfl⟩, hnx4⟩
       try simp only [] at hnx4
       clear hold5
       have ib := wrap_I64 wb
       have bAB := (Bg.i64 ia.1 ia.2).mul (Bg.i64 ib.1 ib.2)
       have hWd := l1Wide_fc bAB (by omega)
       rw [wdT_l] at hWd
       unfold W4.l at hWd
       refine .kf 1 (l1Int_fc (IntKind.i64.wrap wb) ib.1 ib.2) hb56 ?_
       refine .f (l1Mul_fc (Bg.i64 ia.1 ia.2) (Bg.i64 ib.1 ib.2) (by omega) (by omega)) hb144 ?_
       refine .f hWd hb151 ?_
       refine .e ?_
       refine hK16 _ ?_
       refine .q ?_
       refine .ret ?_
       exact hK _ _ _ _ _ trivial ((Fin.mk (r := .agg [.int .u64 (W4z (IntKind.i64.wrap wa * IntKind.i64.wrap wb)).a, .int .u64 (W4z (IntKind.i64.wrap wa * IntKind.i64.wrap wb)).b, .int .u64 (W4z (IntKind.i64.wrap wa * IntKind.i64.wrap wb)).c, .int .u64 (W4z (IntKind.i64.wrap wa * IntKind.i64.wrap wb)).d]) (by simp (disch := omega) [aRes, aResL, aRes1])).restr (fun i => decide (i < nx))) (⟨⟨W4z (IntKind.i64.wrap wa * IntKind.i64.wrap wb), rfl, W4z_ok _⟩, ⟨p4, hp4, by simp (disch := first | omega | (simp; done) | (simp; omega)) [hrestr_in, hrestr_out, hrestr_all hd, hupd_same]⟩, by first | omega | (simp at *; omega)⟩)
      ·try simp only[dc]at h66
       refine .skip ?_
       refine hK2 _ ?_
       refine .sq fun K18 hK18 => ?_
       refine .region ?_
       refine .k 1 ?_
       refine AOPS.old fun hold1 => ?_
       refine .a (near_ac (-60) (60) (by omega) (by omega) (by omega) l p2 id _ _ dl hl hp2 (by simp (disch := omega) [hH]) hold1) hb106 ?_
       rintro _ _ nx3 ⟨⟨kn, rfl, kn0, kn1⟩, ⟨p3, hp3, rfl⟩, hnx3⟩
       try simp only [] at hnx3
       clear hold1
       refine .f (wideOfS_fc kn (by omega) (by omega)) hb105 ?_
       refine .e ?_
       refine hK18 _ ?_
       refine .ret ?_
       exact hK _ _ _ _ _ trivial ((Fin.mk (r := .agg [.int .u64 (W4z kn).a, .int .u64 (W4z kn).b, .int .u64 (W4z kn).c, .int .u64 (W4z kn).d]) (by simp (disch := omega) [aRes, aResL, aRes1])).restr (fun i => decide (i < nx))) (⟨⟨W4z kn, rfl, W4z_ok _⟩, ⟨p3, hp3, by simp (disch := first | omega | (simp; done) | (simp; omega)) [hrestr_in, hrestr_out, hrestr_all hd, hupd_same]⟩, by first | omega | (simp at *; omega)⟩)
end

end Go.Proofs.Ytdcajfgeleopiaa

/- Walks: drawn points. -/
namespace Go.Proofs.Ytdcajfgeleopiaa
open Go Go.RowKit
set_option linter.unusedSimpArgs false
set_option linter.unusedVariables false
set_option maxRecDepth 100000
attribute [local simp] szT2 byT2 agT2 unT2 zoT2 szT3 byT3 agT3 unT3 zoT3 szT22 byT22 agT22 elT22 unT22 zoT22 szT24 byT24 agT24 unT24 zoT24 szT26 byT26 agT26 flT26 fdT26_0 fdT26_1 fdT26_2 fdT26_3 zoT26 szT51 byT51 agT51 flT51 fdT51_0 fdT51_1 fdT51_2 zoT51 szT102 byT102 agT102 flT102 fdT102_0 fdT102_1 zoT102 szT134 byT134 agT134 flT134 fdT134_0 fdT134_1 zoT134

theorem open_ac (l : List Int) (H : Heap) (nx : Nat) : ACall Try.prog 47 [Wd .u8 l] H nx (fun r H' nx' => r = .ptr nx 0 0 ∧ H' = hupd H nx (some (2, [[Wd .u8 l, .int .i64 0]])) ∧ nx' = nx + 1) := by
 refine .b Try.func47 6 fun K hK => ?_
 refine .q ?_
 refine .q ?_
 refine .ret ?_
 exact hK _ _ _ _ _ trivial (Fin.mk (r := .ptr nx 0 0) (by simp [aRes, aResL, aRes1])) (⟨rfl, by simp, by simp⟩)

end Go.Proofs.Ytdcajfgeleopiaa

/- Walks: FnTurns, walked. -/
namespace Go.Proofs.Ytdcajfgeleopiaa
open Go Go.RowKit
set_option linter.unusedSimpArgs false
set_option linter.unusedVariables false
set_option maxRecDepth 100000
attribute [local simp] szT3 byT3 agT3 unT3 zoT3 szT5 byT5 agT5 unT5 zoT5 szT22 byT22 agT22 elT22 unT22 zoT22

theorem big_fc (l : List Int) : FC Try.prog 10 [Wd .u8 l] (.bool (decide (1048576 < (l.length : Int)))) := by
 refine .b Try.func10 6 (fun nx K hK => ?_)
 refine .q ?_
 refine .q ?_ (by simp (disch := first|omega|(simp only[ln];omega)) [len_Wd (P := Try.prog) #[22] rfl elT22]; rfl)
 refine .ret ?_
 exact hK _ _ _ _ trivial (Fin.m)

end Go.Proofs.Ytdcajfgeleopiaa

/- Walks: points in order, between, crossings (both). -/
namespace Go.Proofs.Ytdcajfgeleopiaa
open Go Go.RowKit
set_option linter.unusedSimpArgs false
set_option linter.unusedVariables false
set_option maxRecDepth 100000
attribute [local simp] szT2 byT2 agT2 unT2 zoT2 szT4 byT4 agT4 unT4 zoT4 szT26 byT26 agT26 flT26 fdT26_0 fdT26_1 fdT26_2 fdT26_3 zoT26 szT51 byT51 agT51 flT51 fdT51_0 fdT51_1 fdT51_2 zoT51 szT78 byT78 agT78 elT78 unT78 zoT78 szT80 byT80 agT80 flT80 fdT80_0 fdT80_1 zoT80 szT87 byT87 agT87 elT87 unT87 zoT87 szT89 byT89 agT89 flT89 fdT89_0 fdT89_1 zoT89 szT113 byT113 agT113 flT113 fdT113_0 fdT113_1 fdT113_2 zoT113 szT116 byT116 agT116 flT116 fdT116_0 fdT116_1 fdT116_2 zoT116

theorem eqW4n (n : Nat) (a b c d a' b' c' d' : Int) : eqW Try.prog (n + 2) 26 [.int .u64 a, .int .u64 b, .int .u64 c, .int .u64 d] [.int .u64 a', .int .u64 b', .int .u64 c', .int .u64 d'] = some ((a == a') && ((b == b') && ((c == c') && ((d == d') && true)))) := by
  have hs : Try.prog.stoodInHeld 26 = false := by kernel_rfl
  have hz : szOf Try.prog 24 = some 1 := by kernel_rfl
  have ha : aggT Try.prog 24 = some false := by kernel_rfl
  unfold eqW
  simp only [Try.underlying26, hs]
  simp [eqF, hz, ha, eqW1]
section
attribute [local simp] idf_numS cells_numS numS_fold idf_numI cells_numI numI_fold Pt.av Pt.cells spA spC
end
section
attribute [local simp] idf_numS cells_numS numS_fold idf_numI cells_numI numI_fold Pt.av Pt.cells
end
section
attribute [local simp] idf_numS cells_numS numS_fold idf_numI cells_numI numI_fold Pt.av Pt.cells spA spC
end
section
attribute [local simp] idf_numS cells_numS numS_fold idf_numI cells_numI numI_fold l3A l3C
end

end Go.Proofs.Ytdcajfgeleopiaa

/- Walks: fractions of the program. -/
namespace Go.Proofs.Ytdcajfgeleopiaa
open Go Go.RowKit
set_option linter.unusedSimpArgs false
set_option linter.unusedVariables false
set_option maxRecDepth 100000
attribute [local simp] szT2 byT2 agT2 unT2 zoT2 szT4 byT4 agT4 unT4 zoT4 szT24 byT24 agT24 unT24 zoT24 szT26 byT26 agT26 flT26 fdT26_0 fdT26_1 fdT26_2 fdT26_3 zoT26 szT28 byT28 agT28 flT28 fdT28_0 fdT28_1 zoT28 szT87 byT87 agT87 elT87 unT87 zoT87 szT89 byT89 agT89 flT89 fdT89_0 fdT89_1 zoT89 szT91 byT91 agT91 flT91 fdT91_0 fdT91_1 zoT91 szT150 byT150 agT150 elT150 unT150 zoT150

section
attribute [local simp] idf_numI cells_numI numI_fold
end
section
attribute [local simp] idf_numI cells_numI numI_fold Rt.av Rt.cells wdI
set_option maxHeartbeats 1000000 in
theorem ratio_fc (a : Rt) (ha : a.ok) : FC Try.prog 58 [a.av] (rtA a.up.v a.down.v) := by
 
 refine .b Try.func58 10 (fun nx K hK => ?_) (hr := by simp [idfL, idf, idf_Wd', rtA, rtC])
 refine .q ?_
 refine .sq fun K2 hK2 => ?_
 refine .d 7 ?_
 refine .k 2 (fun fs3 hfs3 => ?_)
 refine .f (wideNum_fc a.up.a a.up.b a.up.c a.up.d ha.1.1 ha.1.2.1 ha.1.2.2.1 ha.1.2.2.2) hb108 ?_
 refine .k 2 (fun fs4 hfs4 => ?_)
 refine .f (wideNum_fc a.down.a a.down.b a.down.c a.down.d ha.2.1 ha.2.2.1 ha.2.2.2.1 ha.2.2.2.2) hb108 ?_
 refine .k 1 (fun fs5 hfs5 => ?_)
 refine .r 7 (by simp only[ln, hfs3, hfs4, hfs5];omega) ?_
 refine hK2 _ ?_
 refine .ret ?_
 exact hK _ _ _ _ trivial ((Fin.m).cast (by rfl))
end
section
attribute [local simp] idf_numI cells_numI numI_fold Rt.av Rt.cells rtA rtC numC
set_option maxHeartbeats 2000000 in
theorem ratioOkI_fc (a : Rt) (ha : a.ok) : FC Try.prog 15 [a.av] (.bool a.good) := by
 have hra := ratio_fc a ha
 have bU := W4.bg ha.1
 have bD := W4.bg ha.2
 have hgd : a.good = (decide (0 < a.down.v) && decide (gg a.up.v a.down.v = 1)) := by unfold Rt.good gg; congr 1; apply Bool.eq_iff_iff.2; simp; omega
 generalize a.up.v = u at *
 generalize a.down.v = d at *
 have hs1 : 0 < d → FC Try.prog 59 [numI d] (.int .i64 1) := fun h => by
   have h1 := sign_fc d
   rw [if_neg (by omega), if_pos h] at h1; exact h1
 have hs0 : ¬ 0 < d → ∃ c : Int, FC Try.prog 59 [numI d] (.int .i64 c) ∧ c ≤ 0 := fun h => ⟨_, sign_fc d, by split <;> (try split) <;> omega⟩
 have bG := gg_bg bU bD
 obtain ⟨cc, hcf, hce⟩ : ∃ c : Int, FC Try.prog 61 [numI (gg u d), numI 1] (.int .i64 c) ∧ (c == 0) = decide (gg u d = 1) := ⟨_, cmp_fc bG (Bg.i64 (n := 1) (by omega) (by omega)) (by omega) (by omega), one_cmp _⟩
 have hg2 : FC Try.prog 60 [.isl [numC u, numC d]] (numI (gg u d)) := by
   have h := gcd_fc (j := 4) [u, d] (by intro z hz; simp only [List.mem_cons, List.not_mem_nil, or_false] at hz; rcases hz with rfl | rfl <;> assumption) (by omega) (by simp)
   rw [gcdL_two] at h; exact h
 refine .b Try.func15 21 (fun nx K hK => ?_)
 refine .q ?_
 refine .sq fun K2 hK2 => ?_
 refine .region ?_
 refine .kf 1 hra hb58 ?_
 refine .e ?_
 refine hK2 _ ?_
 refine .sq fun K3 hK3 => ?_
 by_cases hw : 0 < d
 ·refine .region ?_
  refine .kf 2 (hs1 hw) hb59 ?_
  refine .k 7 ?_
  refine AOPS.frz1 15 (nx + 1 + 1) 2 [numC u, numC d] (.isl [numC u, numC d]) (by simp [numC]) (by simp [fz, numC]) ?_
  refine .f hg2 hb60 ?_
  refine .f (whole_fc 1 (by omega) (by omega)) hb62 ?_
  refine .f hcf hb61 ?_
  refine .e ?_
  refine hK3 _ ?_
  refine .ret ?_
  exact hK _ _ _ _ trivial ((Fin.m).cast (by rw [hgd]; simp [hw, hce]))
 ·obtain ⟨c0, hc0, hc1⟩ := hs0 hw
  have c1 : decide (0 < c0) = false := by simp; omega
  refine .region ?_
  refine .kf 2 hc0 hb59 ?_ (by simp (disch := first|omega|(simp only[ln];omega)) [List.take_succ_cons, List.take_zero, c1]; rfl) (ha := by simp (disch := first|omega|(simp only[ln];omega)) [idf_Wd', c1])
  refine .e ?_ (by simp (disch := first|omega|(simp only[ln];omega)) [c1]; rfl)
  refine hK3 _ ?_
  refine .ret ?_
  exact hK _ _ _ _ trivial ((Fin.m).cast (by rw [hgd]; simp [hw]))
end

end Go.Proofs.Ytdcajfgeleopiaa

/- Walks: fractions of the reference. -/
namespace Go.Proofs.Ytdcajfgeleopiaa
open Go Go.RowKit
set_option linter.unusedSimpArgs false
set_option linter.unusedVariables false
set_option maxRecDepth 100000
attribute [local simp] szT2 byT2 agT2 unT2 zoT2 szT4 byT4 agT4 unT4 zoT4 szT24 byT24 agT24 unT24 zoT24 szT26 byT26 agT26 flT26 fdT26_0 fdT26_1 fdT26_2 fdT26_3 zoT26 szT28 byT28 agT28 flT28 fdT28_0 fdT28_1 zoT28 szT78 byT78 agT78 elT78 unT78 zoT78 szT80 byT80 agT80 flT80 fdT80_0 fdT80_1 zoT80 szT82 byT82 agT82 flT82 fdT82_0 fdT82_1 zoT82

theorem l1From4_fc (x : W4) (hx : x.ok) : FC Try.prog 114 [wdI x.a x.b x.c x.d] (numS x.v) := l1From_fc x.a x.b x.c x.d hx.1 hx.2.1 hx.2.2.1 hx.2.2.2
theorem eqW40 (y : W4) : eqW Try.prog 8 26 [.int .u64 y.a, .int .u64 y.b, .int .u64 y.c, .int .u64 y.d] [.int .u64 0, .int .u64 0, .int .u64 0, .int .u64 0] = some (decide (y = W40)) := by
  rw [eqW4]
  obtain ⟨a, b, c, d⟩ := y
  congr 1
  rw [Bool.eq_iff_iff]
  simp [W40]

section
attribute [local simp] idf_numS cells_numS numS_fold
set_option maxHeartbeats 2000000 in
theorem l2Make_fc {j : Nat} (u d : Int) (hd : d ≠ 0) (bu : Bg j u) (bd : Bg j d) (hj0 : 1 ≤ j) (hj : j ≤ 16777216) : FC Try.prog 154 [numS u, numS d] (l2A (lowU u d) (lowD u d)) := by
 have hgp := gg_pos (u := u) hd
 have hg3 := gg_nrm u d
 have bG := gg_bg bu bd
 have eU : lowU u d = nrm d u / gg u d := rfl
 have eD : lowD u d = nrm d d / gg u d := rfl
 refine .b Try.func154 34 (fun nx K hK => ?_) (hr := by simp [idfL, idf, l2A, l2C, idf_Wd'])
 refine .q ?_
 refine .sq fun K2 hK2 => ?_
 have J2 : ∀ s : St, (∃ X Y : Int, X = nrm d u ∧ Y = nrm d d ∧ s.env 2 = .ptr nx 0 0 ∧ s.env 3 = .ptr (nx + 1) 0 0 ∧ s.env 4 = .ptr (nx + 1 + 1) 0 0 ∧ s.heap nx = some (2, [[.bool (decide (X < 0)), Wd .u32 (dg X)]]) ∧ s.heap (nx + 1) = some (2, [[.bool (decide (Y < 0)), Wd .u32 (dg Y)]]) ∧ s.heap (nx + 1 + 1) = some (4, [[.bool false, .nsl, .bool false, .nsl]]) ∧ nx + 1 + 1 < s.nx ∧ s.nt = 34) → K2 s := by
  rintro ⟨e, H, mm, nt⟩ ⟨X, Y, hX, hY, h2, h3, h4, hA, hB, hD, hm, rfl⟩
  simp only [] at h2 h3 h4 hA hB hD hm
  rw [← hX] at hg3 eU
  rw [← hY] at hg3 eD
  have cX : Bg j X := by rw [hX]; exact bu.nrm
  have cY : Bg j Y := by rw [hY]; exact bd.nrm
  have hg2 : FC Try.prog 113 [numS X, numS Y] (numS (gg u d)) := by
    have h := l1Gcd_fc X Y cX cY hj
    rw [← hg3]; exact h
  obtain ⟨cc, hcf, hce⟩ : ∃ c : Int, FC Try.prog 55 [numS (gg u d), numS 1] (.int .i64 c) ∧ (c == 0) = decide (gg u d = 1) := ⟨_, l1Cmp_fc bG (Bg.i64 (n := 1) (by omega) (by omega)) (by omega) (by omega), one_cmp _⟩
  generalize hgg : gg u d = g at *
  refine hK2 _ ?_
  refine .sq fun K3 hK3 => ?_
  refine .region ?_
  refine .kf 2 hg2 hb113 ?_ (by simp (disch := first|omega|(simp only[ln];omega)) [List.take_succ_cons, List.take_zero, h2, h3, hA, hB, Nat.ne_of_lt hm]; rfl) (ha := by simp (disch := first|omega|(simp only[ln];omega)) [idf_Wd', h2, h3, hA, hB, Nat.ne_of_lt hm])
  refine .e ?_ (by simp (disch := first|omega|(simp only[ln];omega)) [h2, h3, hA, hB, Nat.ne_of_lt hm]; rfl)
  refine hK3 _ ?_
  refine .sq fun K4 hK4 => ?_
  refine .sq fun K5 hK5 => ?_
  refine .d 4 ?_
  refine .k 1 (fun fs6 hfs6 => ?_)
  refine .f (l1Int_fc 1 (by omega) (by omega)) hb56 ?_
  refine .f hcf hb55 ?_
  refine .k 1 (fun fs7 hfs7 => ?_)
  refine .r 4 (by simp only[ln, hfs6, hfs7];omega) ?_
  refine hK5 _ ?_
  refine .c (t := !decide (g = 1)) (fun h18 => ?_) (fun h18 => ?_) (by simp (disch := first|omega|(simp only[ln];omega)) [bne, hce])
  ·try simp only[dc]at h18
   refine .sq fun K8 hK8 => ?_
   refine .region ?_
   refine .kf 2 (l1Div_fc X g (by omega) cX bG hj) hb176 ?_ (by simp (disch := first|omega|(simp only[ln];omega)) [List.take_succ_cons, List.take_zero, h2, hA]; rfl) (ha := by simp (disch := first|omega|(simp only[ln];omega)) [idf_Wd', h2, hA])
   refine .e ?_ (by simp (disch := first|omega|(simp only[ln];omega)) [h2, hA]; rfl)
   refine hK8 _ ?_
   refine .region ?_
   refine .kf 2 (l1Div_fc Y g (by omega) cY bG hj) hb176 ?_ (by simp (disch := first|omega|(simp only[ln];omega)) [List.take_succ_cons, List.take_zero, h3, hB]; rfl) (ha := by simp (disch := first|omega|(simp only[ln];omega)) [idf_Wd', h3, hB])
   refine .e ?_ (by simp (disch := first|omega|(simp only[ln];omega)) [h3, hB]; rfl)
   refine hK4 _ ?_
   refine .q ?_ (by simp (disch := first|omega|(simp only[ln];omega)) [h2, h3, h4, hD]; rfl)
   refine .ret ?_
   exact hK _ _ _ _ trivial ((Fin.mk (by simp (disch := omega) [aRes, aResL, aRes1, h4]; rfl)).cast (by rw [eU, eD]; rfl))
  ·try simp only[dc]at h18
   have hg1 : g = 1 := by simpa using h18
   refine .skip ?_
   refine hK4 _ ?_
   refine .q ?_ (by simp (disch := first|omega|(simp only[ln];omega)) [h2, h3, h4, hA, hB, hD]; rfl)
   refine .ret ?_
   exact hK _ _ _ _ trivial ((Fin.mk (by simp (disch := omega) [aRes, aResL, aRes1, h4]; rfl)).cast (by rw [eU, eD, hg1, Int.ediv_one, Int.ediv_one]; rfl))
 refine .q ?_
 refine .c (t := decide (d < 0)) (fun h7 => ?_) (fun h7 => ?_)
 ·try simp only[dc]at h7
  refine .old fun hold => ?_
  refine .d 4 ?_
  refine .k 1 (fun fs12 hfs12 => ?_)
  refine .f (l1Neg_fc u) hb161 ?_
  refine DP.runF1q (by simp (disch := first|omega|(simp only[ln];omega)) [runDf.eq_def, runF1, runF2, stepF.eq_def, updo.eq_def, hupo.eq_def, opSto1.eq_def]; rfl) fun fq13 hfq13 => ?_
  simp [qids, asksB, Op.operands, topId] at hfq13
  simp only [updo]
  refine .f (l1Neg_fc d) hb161 ?_
  refine DQ.sto1 (m := 4) [2] _ (by simp (disch := first|omega|(simp only[ln];omega)) [runDf.eq_def, runF1, runF2, stepF.eq_def, updo.eq_def, hupo.eq_def, opSto1.eq_def]; rfl) rfl (by simp only[ln, hfs12];omega) (by kernel_rfl) (by intro k f hk hex; simp only [List.mem_cons, List.not_mem_nil, or_false] at hex; rcases hex with rfl <;> (simp [List.getElem?_append, hfs12] at hk; subst hk; refine ⟨?_, by first | omega | (simp; done) | (simp; omega)⟩; simp [qids, asksB, Op.operands, Call.operands, topId, numS, numI, Wd, hfq13]; try omega)) ?_
  try simp only []
  refine DQ.sto1 (m := 4) [] _ (by simp (disch := first|omega|(simp only[ln];omega)) [runDf.eq_def, runF1, runF2, stepF.eq_def, updo.eq_def, hupo.eq_def, opSto1.eq_def]; rfl) rfl (by simp only[ln, hfs12];omega) (by kernel_rfl) (by intro k f hk hex; simp only [List.not_mem_nil] at hex) ?_
  try simp only []
  refine J2 _ ?_
  exact ⟨-u, -d, by simp [nrm, h7], by simp [nrm, h7], by simp, by simp, by simp, by simp (disch := omega), by simp (disch := omega), by simp (disch := omega), by simp, rfl⟩
 ·try simp only[dc]at h7
  refine .skip ?_
  refine J2 _ ?_
  exact ⟨u, d, by simp [nrm, h7], by simp [nrm, h7], by simp, by simp, by simp, by simp (disch := omega), by simp (disch := omega), by simp (disch := omega), by simp, rfl⟩
end
section
attribute [local simp] idf_numS cells_numS numS_fold Rt.av Rt.cells wdI
theorem l2Of_fc (a : Rt) (ha : a.ok) : FC Try.prog 54 [a.av] (l2A a.up.v a.down.v) := by
 refine .b Try.func54 10 (fun nx K hK => ?_) (hr := by simp [idfL, idf, l2A, l2C, idf_Wd'])
 refine .q ?_
 refine .sq fun K2 hK2 => ?_
 refine .d 7 ?_
 refine .k 2 (fun fs3 hfs3 => ?_)
 refine .f (l1From4_fc a.up (ha.1)) hb114 ?_
 refine .k 2 (fun fs4 hfs4 => ?_)
 refine .f (l1From4_fc a.down (ha.2)) hb114 ?_
 refine .k 1 (fun fs5 hfs5 => ?_)
 refine .r 7 (by simp only[ln, hfs3, hfs4, hfs5];omega) ?_
 refine hK2 _ ?_
 refine .ret ?_
 exact hK _ _ _ _ trivial ((Fin.m).cast (by rfl))
end
section
attribute [local simp] idf_numS cells_numS numS_fold l2A l2C
set_option maxHeartbeats 2000000 in
theorem l2Ratio_fc {j : Nat} (u d : Int) (hd : d ≠ 0) (bu : Bg j u) (bd : Bg j d) (hj : j ≤ 16777216) : FC Try.prog 153 [l2A (lowU u d) (lowD u d)] (.tup [.agg [.int .u64 ((told u d).1).up.a, .int .u64 ((told u d).1).up.b, .int .u64 ((told u d).1).up.c, .int .u64 ((told u d).1).up.d, .int .u64 ((told u d).1).down.a, .int .u64 ((told u d).1).down.b, .int .u64 ((told u d).1).down.c, .int .u64 ((told u d).1).down.d], .bool (told u d).2]) := by
 have w1 := l1Wide_fc (lowU_bg (u := u) hd bu) (by omega)
 have w2 := l1Wide_fc (lowD_bg (u := u) hd bd) (by omega)
 rw [wdT_l] at w1 w2
 unfold W4.l at w1 w2
 have ht := told_fit (u := u) hd
 refine .b Try.func153 30 (fun nx K hK => ?_)
 refine .q ?_
 refine .sq fun K2 hK2 => ?_
 refine .region ?_
 refine .kf 2 w1 hb151 ?_
 refine .e ?_
 refine hK2 _ ?_
 refine .sq fun K3 hK3 => ?_
 refine .region ?_
 refine .kf 2 w2 hb151 ?_
 refine .e ?_
 refine hK3 _ ?_
 refine .sq fun K4 hK4 => ?_
 refine .sq fun K5 hK5 => ?_
 cases hf : fits (lowU u d)
 ·refine .r ?_ (by simp (disch := first|omega|(simp only[ln];omega)) [hf]; rfl)
  refine hK5 _ ?_
  refine .c (fun h25 => ?_) (fun h25 => ?_)
  ·try simp only[dc]at h25
   refine .q ?_
   refine .ret ?_
   exact hK _ _ _ _ trivial ((Fin.m).cast (by rw [ht, hf]; rfl))
  ·simp at h25
 ·refine .r ?_ (by simp (disch := first|omega|(simp only[ln];omega)) [hf]; rfl)
  refine hK5 _ ?_
  refine .c (t := !fits (lowD u d)) (fun h25 => ?_) (fun h25 => ?_)
  ·try simp only[dc]at h25
   have hf2 : fits (lowD u d) = false := by simpa using h25
   refine .q ?_
   refine .ret ?_
   exact hK _ _ _ _ trivial ((Fin.m).cast (by rw [ht, hf, hf2]; rfl))
  ·try simp only[dc]at h25
   have hf2 : fits (lowD u d) = true := by simpa using h25
   refine .skip ?_
   refine hK4 _ ?_
   refine .q ?_
   refine .ret ?_
   exact hK _ _ _ _ trivial ((Fin.m).cast (by rw [ht, hf, hf2]; rfl))
end
section
attribute [local simp] idf_numS cells_numS numS_fold Rt.av Rt.cells l2A l2C
set_option maxHeartbeats 2000000 in
theorem ratioOkS_fc (a : Rt) (ha : a.ok) : FC Try.prog 53 [a.av] (.bool a.good) := by
 have hra := l2Of_fc a ha
 have bU := W4.bg ha.1
 have bD := W4.bg ha.2
 have hgd : a.good = (decide (0 < a.down.v) && decide (gg a.up.v a.down.v = 1)) := by unfold Rt.good gg; congr 1; apply Bool.eq_iff_iff.2; simp; omega
 generalize a.up.v = u at *
 generalize a.down.v = d at *
 have hs1 : 0 < d → FC Try.prog 112 [numS d] (.int .i64 1) := fun h => by
   have h1 := l1Sign_fc d
   rw [if_neg (by omega), if_pos h] at h1; exact h1
 have hs0 : ¬ 0 < d → ∃ c : Int, FC Try.prog 112 [numS d] (.int .i64 c) ∧ c ≤ 0 := fun h => ⟨_, l1Sign_fc d, by split <;> (try split) <;> omega⟩
 have bG := gg_bg bU bD
 obtain ⟨cc, hcf, hce⟩ : ∃ c : Int, FC Try.prog 55 [numS (gg u d), numS 1] (.int .i64 c) ∧ (c == 0) = decide (gg u d = 1) := ⟨_, l1Cmp_fc bG (Bg.i64 (n := 1) (by omega) (by omega)) (by omega) (by omega), one_cmp _⟩
 have hg2 : FC Try.prog 113 [numS u, numS d] (numS (gg u d)) := l1Gcd_fc u d bU bD (by omega)
 refine .b Try.func53 20 (fun nx K hK => ?_)
 refine .q ?_
 refine .sq fun K2 hK2 => ?_
 refine .region ?_
 refine .kf 1 hra hb54 ?_
 refine .e ?_
 refine hK2 _ ?_
 refine .sq fun K3 hK3 => ?_
 by_cases hw : 0 < d
 ·refine .region ?_
  refine .kf 2 (hs1 hw) hb112 ?_
  refine .kf 6 hg2 hb113 ?_
  refine .f (l1Int_fc 1 (by omega) (by omega)) hb56 ?_
  refine .f hcf hb55 ?_
  refine .e ?_
  refine hK3 _ ?_
  refine .ret ?_
  exact hK _ _ _ _ trivial ((Fin.m).cast (by rw [hgd]; simp [hw, hce]))
 ·obtain ⟨c0, hc0, hc1⟩ := hs0 hw
  have c1 : decide (0 < c0) = false := by simp; omega
  refine .region ?_
  refine .kf 2 hc0 hb112 ?_ (by simp (disch := first|omega|(simp only[ln];omega)) [List.take_succ_cons, List.take_zero, c1]; rfl) (ha := by simp (disch := first|omega|(simp only[ln];omega)) [idf_Wd', c1])
  refine .e ?_ (by simp (disch := first|omega|(simp only[ln];omega)) [c1]; rfl)
  refine hK3 _ ?_
  refine .ret ?_
  exact hK _ _ _ _ trivial ((Fin.m).cast (by rw [hgd]; simp [hw]))
end
section
attribute [local simp] idf_numS cells_numS numS_fold wdI
set_option maxHeartbeats 2000000 in
theorem ratioOfS_fc (x y : W4) (hx : x.ok) (hy : y.ok) : FC Try.prog 104 [wdI x.a x.b x.c x.d, wdI y.a y.b y.c y.d] (.tup [.agg [.int .u64 ((told x.v y.v).1).up.a, .int .u64 ((told x.v y.v).1).up.b, .int .u64 ((told x.v y.v).1).up.c, .int .u64 ((told x.v y.v).1).up.d, .int .u64 ((told x.v y.v).1).down.a, .int .u64 ((told x.v y.v).1).down.b, .int .u64 ((told x.v y.v).1).down.c, .int .u64 ((told x.v y.v).1).down.d], .bool (told x.v y.v).2]) := by
 have bx := W4.bg hx
 have by' := W4.bg hy
 have hyz : y.v = 0 ↔ y = W40 := ⟨fun h => W4.inj hy W40_ok (h.trans W40_v.symm), fun h => by rw [h, W40_v]⟩
 refine .b Try.func104 18 (fun nx K hK => ?_)
 refine .q ?_
 refine .sq fun K2 hK2 => ?_
 refine .q ?_ (by simp (disch := first|omega|(simp only[ln];omega)) [eqW40]; rfl)
 refine .c (t := decide (y = W40)) (fun h8 => ?_) (fun h8 => ?_)
 ·try simp only[dc]at h8
  refine .q ?_
  refine .ret ?_
  exact hK _ _ _ _ trivial ((Fin.m).cast (by rw [hyz.2 h8, told_zero]; rfl))
 ·try simp only[dc]at h8
  have hyn : y.v ≠ 0 := fun h => h8 (hyz.1 h)
  refine .skip ?_
  refine hK2 _ ?_
  refine .sq fun K5 hK5 => ?_
  refine .d 8 ?_
  refine .k 1 (fun fs6 hfs6 => ?_)
  refine .f (l1From4_fc x (hx)) hb114 ?_
  refine .k 1 (fun fs7 hfs7 => ?_)
  refine .f (l1From4_fc y (hy)) hb114 ?_
  refine .f (l2Make_fc (j := 4) x.v y.v hyn bx by' (by omega) (by omega)) hb154 ?_
  refine .f (l2Ratio_fc (j := 4) x.v y.v hyn bx by' (by omega)) hb153 ?_
  refine .k 2 (fun fs8 hfs8 => ?_)
  refine .r 8 (by simp only[ln, hfs6, hfs7, hfs8];omega) ?_
  refine hK5 _ ?_
  refine .ret ?_
  exact hK _ _ _ _ trivial (Fin.m)
end

end Go.Proofs.Ytdcajfgeleopiaa

/- Walks: drawn fractions. -/
namespace Go.Proofs.Ytdcajfgeleopiaa
open Go Go.RowKit
set_option linter.unusedSimpArgs false
set_option linter.unusedVariables false
set_option maxRecDepth 100000
attribute [local simp] szT2 byT2 agT2 unT2 zoT2 szT26 byT26 agT26 flT26 fdT26_0 fdT26_1 fdT26_2 fdT26_3 zoT26 szT28 byT28 agT28 flT28 fdT28_0 fdT28_1 zoT28

section
attribute [local simp] wdI
set_option maxHeartbeats 8000000 in
theorem ratio_ac (l : List Int) (p id : Nat) (H : Heap) (nx : Nat) (dl : Dig 256 l) (hl : l.length ≤ 1048576) (hp : p ≤ l.length) (hH : H id = some (2, [[Wd .u8 l, .int .i64 (p : Int)]])) (hd : ∀ i q, H i = some q → i < nx) : ACall Try.prog 48 [.ptr id 0 0] H nx (fun r H' nx' => (∃ x : Rt, r = .agg [.int .u64 (x).up.a, .int .u64 (x).up.b, .int .u64 (x).up.c, .int .u64 (x).up.d, .int .u64 (x).down.a, .int .u64 (x).down.b, .int .u64 (x).down.c, .int .u64 (x).down.d] ∧ x.ok) ∧ (∃ p' : Nat, p' ≤ l.length ∧ H' = hupd H id (some (2, [[Wd .u8 l, .int .i64 (p' : Int)]]))) ∧ nx ≤ nx') := by
 have hid := hd id _ hH
 refine .b Try.func48 38 fun K hK => ?_
 refine .q ?_
 refine .sq fun K2 hK2 => ?_
 refine .sq fun K3 hK3 => ?_
 refine .region ?_
 refine .k 1 ?_ (by simp (disch := first|omega|(simp only[ln];omega)) [List.take_succ_cons, List.take_zero, hH]; rfl)
 refine AOPS.old fun hold1 => ?_
 refine .a (once_ac 12 (by omega) (by omega) l p id _ _ dl hl hp (by simp (disch := omega) [hH]) hold1) hb102 ?_ (ha := by simp (disch := first|omega|(simp only[ln];omega)) [idf_Wd', hH])
 rintro _ _ nx2 ⟨⟨b0, rfl⟩, ⟨p2, hp2, rfl⟩, hnx2⟩
 try simp only [] at hnx2
 clear hold1
 refine .nil ?_
 refine hK3 _ ?_
 refine .c (t := b0) (fun h6 => ?_) (fun h6 => ?_)
 ·try simp only[dc]at h6
  refine .sq fun K4 hK4 => ?_
  refine .region ?_
  refine .k 1 ?_
  refine AOPS.old fun hold1 => ?_
  refine .a (wide_ac l p2 id _ _ dl hl hp2 (by simp (disch := omega) [hH]) hold1) hb103 ?_
  rintro _ _ nx3 ⟨⟨xa, rfl, xao⟩, ⟨p3, hp3, rfl⟩, hnx3⟩
  try simp only [] at hnx3
  clear hold1
  refine .k 1 ?_
  refine AOPS.old fun hold3 => ?_
  refine .a (wide_ac l p3 id _ _ dl hl hp3 (by simp (disch := omega) [hH]) hold3) hb103 ?_
  rintro _ _ nx4 ⟨⟨xb, rfl, xbo⟩, ⟨p4, hp4, rfl⟩, hnx4⟩
  try simp only [] at hnx4
  clear hold3
  refine .e ?_
  refine hK4 _ ?_
  refine .ret ?_
  exact hK _ _ _ _ _ trivial ((Fin.mk (r := .agg [.int .u64 ((⟨xa, xb⟩ : Rt)).up.a, .int .u64 ((⟨xa, xb⟩ : Rt)).up.b, .int .u64 ((⟨xa, xb⟩ : Rt)).up.c, .int .u64 ((⟨xa, xb⟩ : Rt)).up.d, .int .u64 ((⟨xa, xb⟩ : Rt)).down.a, .int .u64 ((⟨xa, xb⟩ : Rt)).down.b, .int .u64 ((⟨xa, xb⟩ : Rt)).down.c, .int .u64 ((⟨xa, xb⟩ : Rt)).down.d]) (by simp (disch := omega) [aRes, aResL, aRes1])).restr (fun i => decide (i < nx))) (⟨⟨(⟨xa, xb⟩ : Rt), rfl, ⟨xao, xbo⟩⟩, ⟨p4, hp4, by simp (disch := first | omega | (simp; done) | (simp; omega)) [hrestr_in, hrestr_out, hrestr_all hd, hupd_same]⟩, by first | omega | (simp at *; omega)⟩)
 ·try simp only[dc]at h6
  refine .skip ?_
  refine hK2 _ ?_
  refine .sq fun K5 hK5 => ?_
  refine .region ?_
  refine .k 1 ?_
  refine AOPS.old fun hold1 => ?_
  refine .a (wide_ac l p2 id _ _ dl hl hp2 (by simp (disch := omega) [hH]) hold1) hb103 ?_
  rintro _ _ nx3 ⟨⟨xa, rfl, xao⟩, ⟨p3, hp3, rfl⟩, hnx3⟩
  try simp only [] at hnx3
  clear hold1
  refine .k 1 ?_
  refine AOPS.old fun hold3 => ?_
  refine .a (wide_ac l p3 id _ _ dl hl hp3 (by simp (disch := omega) [hH]) hold3) hb103 ?_
  rintro _ _ nx4 ⟨⟨xb, rfl, xbo⟩, ⟨p4, hp4, rfl⟩, hnx4⟩
  try simp only [] at hnx4
  clear hold3
  have ho := told_ok xa.v xb.v
  have hrf := ratioOfS_fc xa xb xao xbo
  generalize told xa.v xb.v = o at *
  refine .f hrf hb104 ?_
  refine .e ?_
  refine hK5 _ ?_
  refine .sq fun K6 hK6 => ?_
  refine .sq fun K7 hK7 => ?_
  cases hO : o.2
  ·refine .r ?_ (by simp (disch := first|omega|(simp only[ln];omega)) [hO]; rfl)
   refine hK7 _ ?_
   refine .c (fun h25 => ?_) (fun h25 => ?_)
   ·try simp only[dc]at h25
    refine .region ?_
    refine .k 1 ?_
    refine AOPS.old fun hold1 => ?_
    refine .a (near_ac (-20) (20) (by omega) (by omega) (by omega) l p4 id _ _ dl hl hp4 (by simp (disch := omega) [hH]) hold1) hb106 ?_
    rintro _ _ nx5 ⟨⟨na, rfl, na0, na1⟩, ⟨p5, hp5, rfl⟩, hnx5⟩
    try simp only [] at hnx5
    clear hold1
    refine .f (wideOfS_fc na (by omega) (by omega)) hb105 ?_
    refine .k 1 ?_
    refine AOPS.old fun hold4 => ?_
    refine .a (near_ac (0) (11) (by omega) (by omega) (by omega) l p5 id _ _ dl hl hp5 (by simp (disch := omega) [hH]) hold4) hb106 ?_
    rintro _ _ nx6 ⟨⟨nb, rfl, nb0, nb1⟩, ⟨p6, hp6, rfl⟩, hnx6⟩
    try simp only [] at hnx6
    clear hold4
    refine .kf 1 (wideOfS_fc (1 + nb) (by omega) (by omega)) hb105 ?_
    refine .f (ratioOfS_fc (W4z na) (W4z (1 + nb)) (W4z_ok _) (W4z_ok _)) hb104 ?_
    refine .e ?_
    refine hK6 _ ?_
    refine .q ?_
    refine .ret ?_
    exact hK _ _ _ _ _ trivial ((Fin.mk (r := .agg [.int .u64 ((told (W4z na).v (W4z (1 + nb)).v).1).up.a, .int .u64 ((told (W4z na).v (W4z (1 + nb)).v).1).up.b, .int .u64 ((told (W4z na).v (W4z (1 + nb)).v).1).up.c, .int .u64 ((told (W4z na).v (W4z (1 + nb)).v).1).up.d, .int .u64 ((told (W4z na).v (W4z (1 + nb)).v).1).down.a, .int .u64 ((told (W4z na).v (W4z (1 + nb)).v).1).down.b, .int .u64 ((told (W4z na).v (W4z (1 + nb)).v).1).down.c, .int .u64 ((told (W4z na).v (W4z (1 + nb)).v).1).down.d]) (by simp (disch := omega) [aRes, aResL, aRes1])).restr (fun i => decide (i < nx))) (⟨⟨(told (W4z na).v (W4z (1 + nb)).v).1, rfl, told_ok _ _⟩, ⟨p6, hp6, by simp (disch := first | omega | (simp; done) | (simp; omega)) [hrestr_in, hrestr_out, hrestr_all hd, hupd_same]⟩, by first | omega | (simp at *; omega)⟩)
   ·simp at h25
  ·refine .region ?_
   refine .k 4 ?_ (by simp (disch := first|omega|(simp only[ln];omega)) [List.take_succ_cons, List.take_zero, hO]; rfl)
   refine AOPS.old fun hold4 => ?_
   refine .a (once_ac 2 (by omega) (by omega) l p4 id _ _ dl hl hp4 (by simp (disch := omega) [hH]) hold4) hb102 ?_ (ha := by simp (disch := first|omega|(simp only[ln];omega)) [idf_Wd', hO])
   rintro _ _ nx5 ⟨⟨b, rfl⟩, ⟨p5, hp5, rfl⟩, hnx5⟩
   try simp only [] at hnx5
   clear hold4
   refine .e ?_ (by simp (disch := first|omega|(simp only[ln];omega)) [hO]; rfl)
   refine hK7 _ ?_
   refine .c (t := b) (fun h25 => ?_) (fun h25 => ?_)
   ·try simp only[dc]at h25
    refine .region ?_
    refine .k 1 ?_
    refine AOPS.old fun hold1 => ?_
    refine .a (near_ac (-20) (20) (by omega) (by omega) (by omega) l p5 id _ _ dl hl hp5 (by simp (disch := omega) [hH]) hold1) hb106 ?_
    rintro _ _ nx6 ⟨⟨na, rfl, na0, na1⟩, ⟨p6, hp6, rfl⟩, hnx6⟩
    try simp only [] at hnx6
    clear hold1
    refine .f (wideOfS_fc na (by omega) (by omega)) hb105 ?_
    refine .k 1 ?_
    refine AOPS.old fun hold4 => ?_
    refine .a (near_ac (0) (11) (by omega) (by omega) (by omega) l p6 id _ _ dl hl hp6 (by simp (disch := omega) [hH]) hold4) hb106 ?_
    rintro _ _ nx7 ⟨⟨nb, rfl, nb0, nb1⟩, ⟨p7, hp7, rfl⟩, hnx7⟩
    try simp only [] at hnx7
    clear hold4
    refine .kf 1 (wideOfS_fc (1 + nb) (by omega) (by omega)) hb105 ?_
    refine .f (ratioOfS_fc (W4z na) (W4z (1 + nb)) (W4z_ok _) (W4z_ok _)) hb104 ?_
    refine .e ?_
    refine hK6 _ ?_
    refine .q ?_
    refine .ret ?_
    exact hK _ _ _ _ _ trivial ((Fin.mk (r := .agg [.int .u64 ((told (W4z na).v (W4z (1 + nb)).v).1).up.a, .int .u64 ((told (W4z na).v (W4z (1 + nb)).v).1).up.b, .int .u64 ((told (W4z na).v (W4z (1 + nb)).v).1).up.c, .int .u64 ((told (W4z na).v (W4z (1 + nb)).v).1).up.d, .int .u64 ((told (W4z na).v (W4z (1 + nb)).v).1).down.a, .int .u64 ((told (W4z na).v (W4z (1 + nb)).v).1).down.b, .int .u64 ((told (W4z na).v (W4z (1 + nb)).v).1).down.c, .int .u64 ((told (W4z na).v (W4z (1 + nb)).v).1).down.d]) (by simp (disch := omega) [aRes, aResL, aRes1])).restr (fun i => decide (i < nx))) (⟨⟨(told (W4z na).v (W4z (1 + nb)).v).1, rfl, told_ok _ _⟩, ⟨p7, hp7, by simp (disch := first | omega | (simp; done) | (simp; omega)) [hrestr_in, hrestr_out, hrestr_all hd, hupd_same]⟩, by first | omega | (simp at *; omega)⟩)
   ·try simp only[dc]at h25
    refine .skip ?_
    refine hK6 _ ?_
    refine .q ?_
    refine .ret ?_
    exact hK _ _ _ _ _ trivial ((Fin.mk (r := .agg [.int .u64 (o.1).up.a, .int .u64 (o.1).up.b, .int .u64 (o.1).up.c, .int .u64 (o.1).up.d, .int .u64 (o.1).down.a, .int .u64 (o.1).down.b, .int .u64 (o.1).down.c, .int .u64 (o.1).down.d]) (by simp (disch := omega) [aRes, aResL, aRes1])).restr (fun i => decide (i < nx))) (⟨⟨o.1, rfl, ho⟩, ⟨p5, hp5, by simp (disch := first | omega | (simp; done) | (simp; omega)) [hrestr_in, hrestr_out, hrestr_all hd, hupd_same]⟩, by first | omega | (simp at *; omega)⟩)
end

end Go.Proofs.Ytdcajfgeleopiaa

/- Walks: FnRatioSums, walked. -/
namespace Go.Proofs.Ytdcajfgeleopiaa
open Go Go.RowKit
set_option linter.unusedSimpArgs false
set_option linter.unusedVariables false
set_option maxRecDepth 100000


theorem eqRt (p q : Rt) : eqW Try.prog 8 28 [.int .u64 p.up.a, .int .u64 p.up.b, .int .u64 p.up.c, .int .u64 p.up.d, .int .u64 p.down.a, .int .u64 p.down.b, .int .u64 p.down.c, .int .u64 p.down.d] [.int .u64 q.up.a, .int .u64 q.up.b, .int .u64 q.up.c, .int .u64 q.up.d, .int .u64 q.down.a, .int .u64 q.down.b, .int .u64 q.down.c, .int .u64 q.down.d] = some (decide (p = q)) := by
  have hs : Try.prog.stoodInHeld 28 = false := by kernel_rfl
  have hz : szOf Try.prog 26 = some 4 := by kernel_rfl
  have ha : aggT Try.prog 26 = some true := by kernel_rfl
  unfold eqW
  simp only [Try.underlying28, hs]
  simp [eqF, hz, ha, eqW4n]
  obtain ⟨⟨a1, a2, a3, a4⟩, ⟨b1, b2, b3, b4⟩⟩ := p
  obtain ⟨⟨d1, d2, d3, d4⟩, ⟨e1, e2, e3, e4⟩⟩ := q
  rw [Bool.eq_iff_iff]
  simp [Rt.mk.injEq, W4.mk.injEq, and_assoc]



end Go.Proofs.Ytdcajfgeleopiaa

/- Walks: FnExactRingFault, FnExactRingArea2, FnExactRingsMeet, walked. -/
namespace Go.Proofs.Ytdcajfgeleopiaa
open Go Go.RowKit
set_option linter.unusedSimpArgs false
set_option linter.unusedVariables false
set_option maxRecDepth 100000
attribute [local simp] szT2 byT2 agT2 unT2 zoT2 szT3 byT3 agT3 unT3 zoT3 szT35 byT35 agT35 elT35 unT35 zoT35 szT37 byT37 agT37 flT37 fdT37_0 zoT37 szT41 byT41 agT41 elT41 unT41 zoT41 szT43 byT43 agT43 flT43 fdT43_0 zoT43 szT102 byT102 agT102 flT102 fdT102_0 fdT102_1 zoT102 szT158 byT158 agT158 flT158 fdT158_0 fdT158_1 zoT158

def szN (len : Nat) (n : Int) : Int := if n - len < 0 then -1 else n - len
section
attribute [local simp] Sp.av Sp.cells Sg.av Sg.cells
end
section
attribute [local simp] Sp.av Sp.cells Sg.av Sg.cells
end

end Go.Proofs.Ytdcajfgeleopiaa

/- Walks: numbers in decimal, by the program. -/
namespace Go.Proofs.Ytdcajfgeleopiaa
open Go Go.RowKit
set_option linter.unusedSimpArgs false
set_option linter.unusedVariables false
set_option maxRecDepth 100000
attribute [local simp] szT3 byT3 agT3 unT3 zoT3 szT4 byT4 agT4 unT4 zoT4 szT5 byT5 agT5 unT5 zoT5 szT9 byT9 agT9 stT9 zoT9 szT22 byT22 agT22 elT22 unT22 zoT22 szT24 byT24 agT24 unT24 zoT24 szT87 byT87 agT87 elT87 unT87 zoT87 szT89 byT89 agT89 flT89 fdT89_0 fdT89_1 zoT89

theorem pow_b (k : Nat) : 18446744073709551616 ^ k ≤ 10 ^ (20 * k) := by
  rw [Nat.pow_mul]; exact Nat.pow_le_pow_left (by decide) k
theorem numsOf_wd (l : List Int) : numsOf (wd .u8 l) = some l := by
  induction l with
  | nil => rfl
  | cons x r ih => rw [wd_cons, numsOf, ih]; rfl
theorem mag_ten : mag (10 : Int) = [10] := by
  have h := mag_of (l := [10]) (by intro x hx; simp at hx; omega)
  have e1 : trimW [10] = [10] := by decide
  have e2 : val 18446744073709551616 [10] = 10 := by decide
  rw [e1, e2] at h; exact h.symm
theorem mag_dg {d : Nat} (h : d < 10) : (mag (d : Int)).length = (if d = 0 then 0 else 1) ∧ (d ≠ 0 → gt (mag (d : Int)) 0 = d) := by
  rcases Nat.eq_zero_or_pos d with h0 | h0
  · subst h0; exact ⟨by rw [show ((0 : Nat) : Int) = 0 from rfl, mag_zero]; rfl, fun h => absurd rfl h⟩
  · have hl : (mag (d : Int)).length = 1 := by
      have h1 : (mag (d : Int)).length ≤ 1 := Bg.len (k := 1) (by unfold Bg; omega)
      have h2 : (mag (d : Int)).length ≠ 0 := fun h => by rw [mag_len0] at h; omega
      omega
    exact ⟨by rw [hl, if_neg (by omega)], fun _ => mag_one hl⟩

set_option maxHeartbeats 2000000 in
theorem reverseB_ac (l : List Int) (id : Nat) (HP : Heap) (nx : Nat) (hH : HP id = some (1, wd .u8 l)) (hid : id < nx) (hl : l.length ≤ 1099511627776000) : ACall Try.prog 157 [.osl id 0 l.length] HP nx (fun r H' nx' => r = .tup [] ∧ H' = hupd HP id (some (1, wd .u8 l.reverse)) ∧ nx ≤ nx') := by
 refine .b Try.func157 28 fun K hK => ?_
 refine .q ?_ (by simp (disch := first|omega|(simp only[ln];omega)) [len_Wd (P := Try.prog) #[22] rfl elT22, hH]; rfl)
 refine .block ?_
 
 refine .loop (fun N st => ∃ i : Nat, N = l.length - i ∧ i ≤ l.length ∧ (st.heap = hupd HP id (some (1, wd .u8 (revZ l i)))) ∧ (nx ≤ st.nx) ∧ st.env 0 = .osl id 0 l.length ∧ st.env 2 = .int .i64 (i : Int) ∧ st.env 3 = .int .i64 ((l.length : Int) - 1 - (i : Int)) ∧ st.nt = 28) (l.length) (by refine ⟨0, by omega, by omega, by rw [revZ_zero]; exact (hupd_id hH).symm, Nat.le_refl _, ?_, ?_, ?_, rfl⟩ <;> first|(simp (disch := omega);done)|omega|(simp;done)|(simp;omega)|(simp (disch := omega) <;> omega)) ?_
 rintro N ⟨e, H, mm, nt⟩ ⟨i, rfl, hi, rfl, hnx, g0, g2, g3, rfl⟩
 simp only [] at g0 g2 g3
 refine .sq fun K2 hK2 => ?_
 refine .q ?_ (by simp (disch := first|omega|(simp only[ln];omega)) [g2, g3]; rfl)
 refine .c (fun h9 => ?_) (fun h9 => ?_)
 ·try simp only[dc]at h9
  simp only [] at hnx
  have hi' : 2 * i + 1 < l.length := by omega
  obtain ⟨j, hj⟩ : ∃ j : Nat, j = l.length - 1 - i := ⟨_, rfl⟩
  have hji : (l.length : Int) - 1 - i = j := by omega
  have hlo := revZ_lo hi'
  have hhi := revZ_hi hi'
  have hset := revZ_step hi'
  have hrl := revZ_len l i
  rw [← hj] at hhi hset
  generalize revZ l i = R at *
  have hil : i < R.length := by omega
  have hjl : j < R.length := by omega
  refine .skip ?_
  refine hK2 _ ?_
  refine .sq fun K4 hK4 => ?_
  refine .block ?_
  refine .old fun hold => ?_
  refine .d 13 ?_
  refine .k 2 (fun fs5 hfs5 => ?_) (by simp (disch := first|omega|(simp only[ln];omega)) [runDf.eq_def, runF1, runF2, stepF.eq_def, updo.eq_def, hupo.eq_def, opSto1.eq_def, List.take_succ_cons, List.take_zero, idx_WdD (P := Try.prog) elT22 szT5, if_pos, g0, g2, g3, hji, hlo, hhi, hil, hjl, gt_set, gt_set_ne, List.length_set]; rfl)
  refine DP.runF1q (by simp (disch := first|omega|(simp only[ln];omega)) [runDf.eq_def, runF1, runF2, stepF.eq_def, updo.eq_def, hupo.eq_def, opSto1.eq_def, idx_WdD (P := Try.prog) elT22 szT5, if_pos, g0, g2, g3, hji, hlo, hhi, hil, hjl, gt_set, gt_set_ne, List.length_set]; rfl) fun fq6 hfq6 => ?_
  simp [qids, asksB, Op.operands, topId] at hfq6
  simp only [updo]
  refine DP.runF1q (by simp (disch := first|omega|(simp only[ln];omega)) [runDf.eq_def, runF1, runF2, stepF.eq_def, updo.eq_def, hupo.eq_def, opSto1.eq_def, idx_WdD (P := Try.prog) elT22 szT5, if_pos, g0, g2, g3, hji, hlo, hhi, hil, hjl, gt_set, gt_set_ne, List.length_set]; rfl) fun fq7 hfq7 => ?_
  simp [qids, asksB, Op.operands, topId] at hfq7
  simp only [updo]
  refine .k 9 (fun fs8 hfs8 => ?_) (by simp (disch := first|omega|(simp only[ln];omega)) [runDf.eq_def, runF1, runF2, stepF.eq_def, updo.eq_def, hupo.eq_def, opSto1.eq_def, List.take_succ_cons, List.take_zero, idx_WdD (P := Try.prog) elT22 szT5, if_pos, g0, g2, g3, hji, hlo, hhi, hil, hjl, gt_set, gt_set_ne, List.length_set]; rfl)
  refine DQ.stoT (m := 13) [2, 3] _ (by simp (disch := first|omega|(simp only[ln];omega)) [runDf.eq_def, runF1, runF2, stepF.eq_def, updo.eq_def, hupo.eq_def, opSto1.eq_def, idx_WdD (P := Try.prog) elT22 szT5, if_pos, g0, g2, g3, hji, hlo, hhi, hil, hjl, gt_set, gt_set_ne, List.length_set]; rfl) rfl (by simp only[ln, hfs5, hfs8];omega) (by kernel_rfl) (by intro k f hk hex; simp only [List.mem_cons, List.not_mem_nil, or_false] at hex; rcases hex with rfl | rfl <;> (simp [List.getElem?_append, hfs5, hfs8] at hk; subst hk; refine ⟨?_, by first | omega | (simp; done) | (simp; omega)⟩; simp [qids, asksB, Op.operands, Call.operands, topId, numS, numI, Wd, hfq6, hfq7, g0, g2, g3]; try omega)) ?_
  try simp only []
  refine DQ.val1 _ (by simp (disch := first|omega|(simp only[ln];omega)) [runDf.eq_def, runF1, runF2, stepF.eq_def, updo.eq_def, hupo.eq_def, opSto1.eq_def, idx_WdD (P := Try.prog) elT22 szT5, if_pos, g0, g2, g3, hji, hlo, hhi, hil, hjl, gt_set, gt_set_ne, List.length_set]; rfl) rfl ?_
  simp only [updo]
  refine DQ.stoT (m := 13) [] _ (by simp (disch := first|omega|(simp only[ln];omega)) [runDf.eq_def, runF1, runF2, stepF.eq_def, updo.eq_def, hupo.eq_def, opSto1.eq_def, idx_WdD (P := Try.prog) elT22 szT5, if_pos, g0, g2, g3, hji, hlo, hhi, hil, hjl, gt_set, gt_set_ne, List.length_set]; rfl) rfl (by simp only[ln, hfs5, hfs8];omega) (by kernel_rfl) (by intro k f hk hex; simp only [List.not_mem_nil] at hex) ?_
  try simp only []
  refine hK4 _ ?_
  refine .r ?_ (by simp (disch := first|omega|(simp only[ln];omega)) [g2, g3]; rfl)
  refine ⟨l.length - (i + 1), by omega, i + 1, rfl, by omega, by simp [hupd_same, hset, hlo, hhi], by simp; omega, ?_, ?_, ?_, rfl⟩ <;> first|(simp (disch := omega) [g0, g2, g3];done)|omega|(simp;done)|(simp;omega)|(simp (disch := omega) [g0, g2, g3] <;> omega)
 ·try simp only[dc]at h9
  refine .exit ?_
  exact hK _ _ _ _ _ trivial ((Fin.m)) (⟨rfl, by rw [revZ_end (by omega)], hnx⟩)
section
attribute [local simp] idf_numI cells_numI
set_option maxHeartbeats 4000000 in
theorem numText_fc {k : Nat} {n : Int} (bn : Bg k n) (hk : k ≤ 1024) : FC Try.prog 109 [numI n] (.str (strOfNums (decB n))) := by
 have hn1 : n.natAbs < 10 ^ (20 * k) := Nat.lt_of_lt_of_le bn (pow_b k)
 have hdl : (decR n.natAbs).length ≤ 4096000000000 := by
   have := decD_len hn1
   unfold decR; rw [List.length_map]; omega
 clear hn1
 have mag_abs : mag ((n.natAbs : Nat) : Int) = mag n := by unfold mag; rw [Int.natAbs_natCast]
 have bk : ∀ m : Nat, m ≤ n.natAbs → (mag ((m : Nat) : Int)).length ≤ 68719476736 := fun m hm => by
   have : Bg k ((m : Nat) : Int) := by unfold Bg at *; rw [Int.natAbs_natCast]; omega
   have := this.len; omega
 have m10 := mag_ten
 have hzl : (decZ n.natAbs).length ≤ 4096000000000 := by
   unfold decZ; split
   · simp
   · exact hdl
 obtain ⟨D, hD⟩ : ∃ D, decZ n.natAbs ++ (if n < 0 then [45] else []) = D := ⟨_, rfl⟩
 have hDl : D.length ≤ 4096000000001 := by
   rw [← hD, List.length_append]
   split
   · simp; omega
   · simp; omega
 refine .b Try.func109 49 (fun nx K hK => ?_)
 refine .q ?_
 refine .q ?_ (by simp (disch := first|omega|(simp only[ln];omega)) [numI]; rfl)
 refine .sq fun K3 hK3 => ?_
 refine .q ?_
 refine .block ?_
 refine .loop (fun N s => ∃ (m id : Nat) (c : List Int), N = m + 0 ∧ m ≤ n.natAbs ∧ c ++ decR m = decR n.natAbs ∧ c.length ≤ 4096000000000 ∧ (m ≠ 0 → c.length + (decR m).length ≤ 4096000000000) ∧ nx < id ∧ s.env 1 = .ptr nx 0 0 ∧ s.env 3 = .osl id 0 c.length ∧ s.env 4 = Wd .u64 (mag ((m : Nat) : Int)) ∧ s.heap nx = some (2, [[.bool (decide (n < 0)), Wd .u64 (mag n)]]) ∧ nx < s.nx ∧ s.heap id = some (1, wd .u8 c) ∧ id < s.nx ∧ s.nt = 49) (n.natAbs) (by refine ⟨n.natAbs, nx + 1, [], by omega, by omega, rfl, by simp, fun _ => by simpa using hdl, by omega, ?_, ?_, ?_, ?_, ?_, ?_, ?_, rfl⟩ <;> first|(simp (disch := omega) [mag_abs, wd];done)|omega|(simp;done)|(simp;omega)) ?_
 rintro N ⟨e, H, mm, nt⟩ ⟨m, id, c, hN, hm, hc, hcl, hcm, hid, g1, g3, g4, Ha, xa, Ho, xo, rfl⟩
 simp only [] at g1 g3 g4 Ha xa Ho xo
 refine .sq fun K5 hK5 => ?_
 refine .q ?_ (by simp (disch := first|omega|(simp only[ln];omega)) [len_Wd (P := Try.prog) #[87] rfl elT87, g4]; rfl)
 refine .c (t := decide (0 < ((mag ((m : Nat) : Int)).length : Int))) (fun h13 => ?_) (fun h13 => ?_)
 ·try simp only[dc]at h13
  have hm0 : m ≠ 0 := fun h => by
    have := mag_len0.2 (show ((m : Nat) : Int) = 0 by omega)
    omega
  have hdr := decR_pos hm0
  have dv := divWords_fc m 10 (by omega) (bk m hm) (by rw [show ((10 : Nat) : Int) = 10 from rfl, m10]; simp)
  rw [show ((10 : Nat) : Int) = 10 from rfl, m10] at dv
  have hmd : m % 10 < 10 := Nat.mod_lt _ (by omega)
  obtain ⟨ml, mg⟩ := mag_dg hmd
  replace hcm := hcm hm0
  rw [hdr] at hcm
  simp only [List.length_cons] at hcm
  generalize hd : m % 10 = d at *
  generalize hqq : m / 10 = q at *
  refine .skip ?_
  refine hK5 _ ?_
  refine .block ?_
  refine .sq fun K7 hK7 => ?_
  refine .region ?_
  refine .k 2 ?_ (by simp (disch := first|omega|(simp only[ln];omega)) [List.take_succ_cons, List.take_zero, g4]; rfl)
  refine AOPS.frz1 16 mm 1 (wd .u64 [10]) (Wd .u64 [10]) (by simp; first | done | rfl) (by simp; first | exact fz_wd rfl | exact isl_take_wd (by simp)) ?_
  refine .f dv hb117 ?_ (ha := by simp (disch := first|omega|(simp only[ln];omega)) [idf_Wd', g4])
  refine .e ?_ (by simp (disch := first|omega|(simp only[ln];omega)) [g4]; rfl)
  refine hK7 _ ?_
  refine .q ?_
  refine .sq fun K9 hK9 => ?_
  have J9 : ∀ s : St, (s.env 1 = .ptr nx 0 0 ∧ s.env 3 = .osl id 0 c.length ∧ s.env 4 = Wd .u64 (mag ((m : Nat) : Int)) ∧ s.env 5 = Wd .u64 (mag ((q : Nat) : Int)) ∧ s.env 7 = .int .u8 (48 + ((d : Nat) : Int)) ∧ s.heap nx = some (2, [[.bool (decide (n < 0)), Wd .u64 (mag n)]]) ∧ nx < s.nx ∧ s.heap id = some (1, wd .u8 c) ∧ id < s.nx ∧ s.nt = 49) → K9 s := by
   rintro ⟨e, H, mm, nt⟩ ⟨g1d, g3d, g4d, g5d, g7d, Had, xad, Hod, xod, rfl⟩
   simp only [] at g1d g3d g4d g5d g7d Had xad Hod xod
   refine hK9 _ ?_
   refine .region ?_
   refine .k 3 ?_ (by simp (disch := first|omega|(simp only[ln];omega)) [List.take_succ_cons, List.take_zero, g1d, g3d, g4d, g5d, g7d, Had, Hod]; rfl)
   refine AOPS.opapp (by simp (disch := first|omega|(simp only[ln];omega)) [opApp.eq_def, aSrc_isl, aSrc_osl, aSrc_nsl, aSrc_int, wd_app, wd_app2, if_pos, wd_append, wd_take, wd_drop, List.nil_append, g1d, g3d, g4d, g5d, g7d, Had, Hod, src_Wd' (P := Try.prog) elT22]; first | rfl | exact ⟨rfl, rfl⟩ | exact ⟨rfl, rfl, rfl⟩) (by simp) (by simp) ?_
   simp only [puts_some, hdrop]
   refine .e ?_ (by simp (disch := first|omega|(simp only[ln];omega)) [g1d, g3d, g4d, g5d, g7d, Had, Hod]; rfl)
   refine ⟨q, by omega, q, mm + 1, c ++ [48 + ((d : Nat) : Int)], rfl, by omega, by rw [← hc, hdr]; simp, by simp; omega, fun _ => by simp; omega, by omega, ?_, ?_, ?_, ?_, ?_, ?_, ?_, rfl⟩ <;> first|(simp (disch := omega) [g1d, g3d, g4d, g5d, g7d, Had, Hod];done)|omega|(simp;done)|(simp;omega)
  refine .q ?_ (by simp (disch := first|omega|(simp only[ln];omega)) [len_Wd (P := Try.prog) #[87] rfl elT87]; rfl)
  refine .c (t := decide (0 < (mag ((d : Nat) : Int)).length)) (fun h22 => ?_) (fun h22 => ?_)
  ·try simp only[dc]at h22
   have hd0 : d ≠ 0 := fun h => by rw [ml, if_pos h] at h22; omega
   have mg0 := mg hd0
   have ml1 : (mag ((d : Nat) : Int)).length = 1 := by rw [ml, if_neg hd0]
   have wr : IntKind.u8.wrap (48 + ((d : Nat) : Int)) = 48 + ((d : Nat) : Int) := wrap_u8s (by omega) (by omega)
   refine .r ?_ (by simp (disch := first|omega|(simp only[ln];omega)) [idx_WdD (P := Try.prog) elT87 szT24, if_pos, mg0, ml1, wr, ld_ip agT24]; rfl)
   refine J9 _ ?_
   refine ⟨?_, ?_, ?_, ?_, ?_, ?_, ?_, ?_, ?_, rfl⟩ <;> first|(simp (disch := omega) [g1, g3, g4, Ha, Ho, mg0, wr];done)|omega|(simp;done)|(simp;omega)
  ·try simp only[dc]at h22
   have hd0 : d = 0 := Classical.byContradiction fun h => by rw [ml, if_neg h] at h22; omega
   refine .skip ?_
   refine J9 _ ?_
   refine ⟨?_, ?_, ?_, ?_, ?_, ?_, ?_, ?_, ?_, rfl⟩ <;> first|(simp (disch := omega) [g1, g3, g4, Ha, Ho, hd0];done)|omega|(simp;done)|(simp;omega)
 ·try simp only[dc]at h13
  have hm0 : m = 0 := by
    have := (mag_len0 (z := ((m : Nat) : Int))).1 (by omega)
    omega
  subst hm0
  rw [decR_zero, List.append_nil] at hc
  refine .exit ?_
  refine hK3 _ ?_
  refine .sq fun K11 hK11 => ?_
  have J11 : ∀ s : St, (∃ id : Nat, (nx < id) ∧ s.env 1 = .ptr nx 0 0 ∧ s.env 3 = .osl id 0 (decZ n.natAbs).length ∧ s.heap nx = some (2, [[.bool (decide (n < 0)), Wd .u64 (mag n)]]) ∧ nx < s.nx ∧ s.heap id = some (1, wd .u8 (decZ n.natAbs)) ∧ id < s.nx ∧ s.nt = 49) → K11 s := by
   clear g1 g3 g4 Ha xa Ho xo hid
   rintro ⟨e, H, mm, nt⟩ ⟨id, hid, g1z, g3z, Haz, xaz, Hoz, xoz, rfl⟩
   simp only [] at g1z g3z Haz xaz Hoz xoz
   refine hK11 _ ?_
   refine .sq fun K12 hK12 => ?_
   have J12 : ∀ s : St, (∃ id : Nat, (nx < id) ∧ s.env 3 = .osl id 0 D.length ∧ s.heap nx = some (2, [[.bool (decide (n < 0)), Wd .u64 (mag n)]]) ∧ nx < s.nx ∧ s.heap id = some (1, wd .u8 D) ∧ id < s.nx ∧ s.nt = 49) → K12 s := by
    rintro ⟨e, H, mm, nt⟩ ⟨id, hid, g3e, Hae, xae, Hoe, xoe, rfl⟩
    simp only [] at g3e Hae xae Hoe xoe
    have hDr : D.reverse = decB n := by rw [← hD]; rfl
    refine hK12 _ ?_
    refine .sq fun K13 hK13 => ?_
    refine .region ?_
    refine .k 1 ?_ (by simp (disch := first|omega|(simp only[ln];omega)) [List.take_succ_cons, List.take_zero, g3e]; rfl)
    refine .a (reverseB_ac D id _ _ (by simp (disch := omega) [Hoe]) (by simp; omega) (by omega)) hb157 ?_ (ha := by simp (disch := first|omega|(simp only[ln];omega)) [idf_Wd', g3e])
    rintro _ _ nx3 ⟨rfl, rfl, hnx3⟩
    refine .nil ?_
    refine hK13 _ ?_
    refine .sq fun K14 hK14 => ?_
    refine AWP.region ?_
    refine AOPS.runk 1 (by simp (disch := first|omega|(simp only[ln];omega)) [List.take_succ_cons, List.take_zero, g3e, Wd, numsOf_wd]; rfl) ?_
    simp only [List.drop_succ_cons, List.drop_zero]
    refine AOPS.frz1 47 id 1 (wd .u8 D.reverse) (Wd .u8 D.reverse) (by simp) (by simp [g3e]; first | exact fz_wd (by simp) | exact isl_take_wd (by simp)) ?_
    refine AOPS.all (by simp (disch := first|omega|(simp only[ln];omega)) [List.take_succ_cons, List.take_zero, g3e, Wd, numsOf_wd]; rfl) ?_
    refine hK14 _ ?_
    refine .ret ?_
    exact hK _ _ _ _ trivial ((Fin.m).cast (by rw [hDr]))
   refine .q ?_ (by simp (disch := first|omega|(simp only[ln];omega)) [g1z, Haz]; rfl)
   
   refine .c (t := decide (n < 0)) (fun h41 => ?_) (fun h41 => ?_)
   ·try simp only[dc]at h41
    have hD2 : D = decZ n.natAbs ++ [45] := by rw [← hD, if_pos h41]
    refine .region ?_
    refine .k 2 ?_ (by simp (disch := first|omega|(simp only[ln];omega)) [List.take_succ_cons, List.take_zero, g3z, Hoz]; rfl)
    refine AOPS.opapp (by simp (disch := first|omega|(simp only[ln];omega)) [opApp.eq_def, aSrc_isl, aSrc_osl, aSrc_nsl, aSrc_int, wd_app, wd_app2, if_pos, wd_append, wd_take, wd_drop, List.nil_append, g3z, Hoz, hzl, src_Wd' (P := Try.prog) elT22]; first | rfl | exact ⟨rfl, rfl⟩ | exact ⟨rfl, rfl, rfl⟩) (by simp) (by simp) ?_
    simp only [puts_some, hdrop]
    refine .e ?_ (by simp (disch := first|omega|(simp only[ln];omega)) [g3z, Hoz]; rfl)
    refine J12 _ ?_
    refine ⟨mm + 1, by omega, ?_, ?_, ?_, ?_, ?_, rfl⟩ <;> first|(simp (disch := omega) [g1z, g3z, Haz, Hoz, hD2];done)|omega|(simp;done)|(simp;omega)
   ·try simp only[dc]at h41
    have hD2 : D = decZ n.natAbs := by rw [← hD, if_neg h41, List.append_nil]
    refine .skip ?_
    refine J12 _ ?_
    refine ⟨id, by omega, ?_, ?_, ?_, ?_, ?_, rfl⟩ <;> first|(simp (disch := omega) [g1z, g3z, Haz, Hoz, hD2];done)|omega|(simp;done)|(simp;omega)
  refine .sq fun K16 hK16 => ?_
  by_cases hz : n = 0
  ·have hcn : c = [] := by rw [hz] at hc; rw [hc]; exact decR_zero
   subst hcn
   have hdz : decZ n.natAbs = [48] := by rw [hz]; rfl
   refine .r ?_ (by simp (disch := first|omega|(simp only[ln];omega)) [len_Wd (P := Try.prog) #[22] rfl elT22, g3, Ho]; rfl)
   refine hK16 _ ?_
   refine .c (fun h36 => ?_) (fun h36 => ?_)
   ·try simp only[dc]at h36
    refine .region ?_
    refine .k 2 ?_ (by simp (disch := first|omega|(simp only[ln];omega)) [List.take_succ_cons, List.take_zero, g3, Ho]; rfl)
    refine AOPS.opapp (by simp (disch := first|omega|(simp only[ln];omega)) [opApp.eq_def, aSrc_isl, aSrc_osl, aSrc_nsl, aSrc_int, wd_app, wd_app2, if_pos, wd_append, wd_take, wd_drop, List.nil_append, g3, Ho, src_Wd' (P := Try.prog) elT22]; first | rfl | exact ⟨rfl, rfl⟩ | exact ⟨rfl, rfl, rfl⟩) (by simp) (by simp) ?_
    simp only [puts_some, hdrop]
    refine .e ?_ (by simp (disch := first|omega|(simp only[ln];omega)) [g3, Ho]; rfl)
    refine J11 _ ?_
    refine ⟨mm + 1, by omega, ?_, ?_, ?_, ?_, ?_, ?_, rfl⟩ <;> first|(simp (disch := omega) [g1, g3, g4, Ha, Ho, hdz];done)|omega|(simp;done)|(simp;omega)
   ·simp at h36
  ·have hdz : decZ n.natAbs = c := by rw [hc]; unfold decZ; rw [if_neg (by omega)]
   have hc0 : c ≠ [] := by rw [← hdz]; exact decZ_len _
   have hc0' : c.length ≠ 0 := fun h => hc0 (List.length_eq_zero_iff.1 h)
   have hcb : ((c.length : Int) == 0) = false := by simp [hc0]
   refine .r ?_ (by simp (disch := first|omega|(simp only[ln];omega)) [len_Wd (P := Try.prog) #[22] rfl elT22, g3, hcb, hc0, Ho]; rfl)
   refine hK16 _ ?_
   refine .c (fun h36 => ?_) (fun h36 => ?_)
   ·simp [hc0] at h36
   ·try simp only[dc]at h36
    refine .skip ?_
    refine J11 _ ?_
    refine ⟨id, by omega, ?_, ?_, ?_, ?_, ?_, ?_, rfl⟩ <;> first|(simp (disch := omega) [g1, g3, g4, Ha, Ho, hdz];done)|omega|(simp;done)|(simp;omega)
end

end Go.Proofs.Ytdcajfgeleopiaa

/- Walks: numbers read of texts. -/
namespace Go.Proofs.Ytdcajfgeleopiaa
open Go Go.RowKit
set_option linter.unusedSimpArgs false
set_option linter.unusedVariables false
set_option maxRecDepth 100000
attribute [local simp] szT2 byT2 agT2 unT2 zoT2 szT3 byT3 agT3 unT3 zoT3 szT4 byT4 agT4 unT4 zoT4 szT5 byT5 agT5 unT5 zoT5 szT9 byT9 agT9 stT9 zoT9 szT24 byT24 agT24 unT24 zoT24 szT87 byT87 agT87 elT87 unT87 zoT87 szT89 byT89 agT89 flT89 fdT89_0 fdT89_1 zoT89

theorem sn_at {s : ByteArray} {i : Nat} {x : UInt8} (h : s[i]? = some x) : ∀ k : i < s.size, s[i]'k = x := fun k => by rw [getElem?_pos s i k] at h; exact Option.some.inj h

section
attribute [local simp] idf_numI cells_numI
set_option maxHeartbeats 4000000 in
theorem readNum_fc (L : List Int) (hb : Byt L) (hl : L.length ≤ 9223372036854775807) : FC Try.prog 111 [.str (strOfNums L)] (.tup [numI (rdI L), .bool (rdB L)]) := by
 have szL := strOfNums_size L
 refine .b Try.func111 65 (fun nx K hK => ?_)
 refine .q ?_
 refine .q ?_
 refine .sq fun K3 hK3 => ?_
 have J3 : ∀ s : St, (s.env 0 = .str (strOfNums L) ∧ s.env 2 = .ptr nx 0 0 ∧ s.env 3 = .bool false ∧ s.env 5 = .bool (rdS L) ∧ s.env 4 = .str (strOfNums (rdT L)) ∧ s.heap nx = some (2, [[.bool false, .nsl]]) ∧ nx < s.nx ∧ s.nt = 65) → K3 s := by
  rintro ⟨e, H, mm, nt⟩ ⟨g0a, g2a, g3a, g5a, g4a, Hza, xza, rfl⟩
  simp only [] at g0a g2a g3a g5a g4a Hza xza
  obtain ⟨T, hT⟩ : ∃ T, rdT L = T := ⟨_, rfl⟩
  have hTb : Byt T := by rw [← hT]; exact rdT_byt hb
  have hTl : T.length ≤ L.length := by rw [← hT]; exact rdT_len L
  rw [hT] at g4a
  have szT := strOfNums_size T
  refine hK3 _ ?_
  refine .sq fun K4 hK4 => ?_
  refine .sq fun K5 hK5 => ?_
  have J5 : ∀ s : St, (s.env 0 = .str (strOfNums L) ∧ s.env 2 = .ptr nx 0 0 ∧ s.env 3 = .bool false ∧ s.env 5 = .bool (rdS L) ∧ s.env 4 = .str (strOfNums T) ∧ s.env 26 = .bool (decide (T = []) || decide (100 < L.length)) ∧ s.heap nx = some (2, [[.bool false, .nsl]]) ∧ nx < s.nx ∧ s.nt = 65) → K5 s := by
   rintro ⟨e, H, mm, nt⟩ ⟨g0b, g2b, g3b, g5b, g4b, g26b, Hzb, xzb, rfl⟩
   simp only [] at g0b g2b g3b g5b g4b g26b Hzb xzb
   refine hK5 _ ?_
   refine .c (t := (decide (T = []) || decide (100 < L.length))) (fun h26 => ?_) (fun h26 => ?_) (by simp (disch := first|omega|(simp only[ln];omega)) [g26b])
   ·try simp only[dc]at h26
    have hno := rd_no (rd_none (L := L) (by rw [hT]; simpa using h26))
    refine .q ?_ (by simp (disch := first|omega|(simp only[ln];omega)) [g2b, Hzb]; rfl)
    refine .ret ?_
    exact hK _ _ _ _ trivial (((Fin.mk (r := .tup [.agg [.bool false, .nsl], .bool false]) (by simp (disch := omega) [aRes, aResL, aRes1, g2b])).weak (fun _ _ _ _ => tup0_weak)).cast (by rw [(hno).1, (hno).2]))
   ·try simp only[dc]at h26
    have hTn : T ≠ [] := fun h => by simp [h] at h26
    have hL100 : L.length ≤ 100 := by
      rcases Nat.lt_or_ge 100 L.length with h | h
      · simp [h] at h26
      · exact h
    have hT100 : T.length ≤ 100 := by omega
    refine .skip ?_
    refine hK4 _ ?_
    refine .q ?_ (by simp (disch := first|omega|(simp only[ln];omega)) [g2b]; rfl)
    refine .sq fun K8 hK8 => ?_
    refine AWP.weakH mm 2 [[.bool false, .nsl]] [[.bool (decide ((0 : Int) < 0)), Wd .u64 (mag 0)]] (by simp) (fun _ _ _ _ h => nslN h) ?_
    refine .q ?_ (by simp (disch := first|omega|(simp only[ln];omega)) [g4b, szT]; rfl)
    refine .block ?_
    
    refine .loop (fun N s => ∃ i : Nat, ∃ id : Nat, N = T.length - i ∧ i ≤ T.length ∧ (nx < id) ∧ (∀ c ∈ T.take i, isDg c = true) ∧ s.env 0 = .str (strOfNums L) ∧ s.env 2 = .ptr nx 0 0 ∧ s.env 3 = .bool false ∧ s.env 4 = .str (strOfNums T) ∧ s.env 5 = .bool (rdS L) ∧ s.env 6 = .ptr id 0 0 ∧ s.env 30 = .int .i64 (T.length : Int) ∧ s.env 31 = .int .i64 (i : Int) ∧ s.heap nx = some (2, [[.bool false, .nsl]]) ∧ nx < s.nx ∧ s.heap id = some (2, [[.bool (decide ((((rdV (T.take i) 0) : Nat) : Int) < 0)), Wd .u64 (mag (((rdV (T.take i) 0) : Nat) : Int))]]) ∧ id < s.nx ∧ s.nt = 65) (T.length) (by refine ⟨0, _, by omega, by omega, by omega, fun c hc => by simp at hc, ?_, ?_, ?_, ?_, ?_, ?_, ?_, ?_, ?_, ?_, ?_, ?_, rfl⟩ <;> first|(simp (disch := omega) [g0b, g4b, g5b, g2b, g3b, Hzb, rdV, strOfNums_size, hT];done)|omega|(simp;done)|(simp;omega)) ?_
    rintro N ⟨e, H, mm, nt⟩ ⟨i, id, rfl, hi, hid, hdg, g0, g2, g3, g4, g5, g6, g30, g31, Hz, xz, Hn, xn, rfl⟩
    simp only [] at g0 g2 g3 g4 g5 g6 g30 g31 Hz xz Hn xn
    refine .q ?_ (by simp (disch := first|omega|(simp only[ln];omega)) [g30, g31]; rfl)
    refine .sq fun K11 hK11 => ?_
    refine .c (fun h32 => ?_) (fun h32 => ?_)
    ·try simp only[dc]at h32
     have hi' : i < T.length := by omega
     obtain ⟨x, e1, g1⟩ := sn_get hTb hi'
     have e2 := sn_at e1
     have hcb := hTb (gt T i) (List.mem_of_getElem? (gtz_get hi'))
     have hiN : ((i : Int)).toNat = i := rfl
     have hx : i < (strOfNums T).size := by rw [szT]; exact hi'
     refine .skip ?_
     refine hK11 _ ?_
     refine .sq fun K12 hK12 => ?_
     refine .block ?_
     refine .q ?_ (by simp (disch := first|omega|(simp only[ln];omega)) [g31]; rfl)
     refine .sq fun K14 hK14 => ?_
     refine .sq fun K15 hK15 => ?_
     have J15 : ∀ s : St, (s.env 0 = .str (strOfNums L) ∧ s.env 2 = .ptr nx 0 0 ∧ s.env 3 = .bool false ∧ s.env 4 = .str (strOfNums T) ∧ s.env 5 = .bool (rdS L) ∧ s.env 6 = .ptr id 0 0 ∧ s.env 30 = .int .i64 (T.length : Int) ∧ s.env 31 = .int .i64 (i : Int) ∧ s.env 7 = .int .i64 (i : Int) ∧ s.env 43 = .bool (!isDg (gt T i)) ∧ s.heap nx = some (2, [[.bool false, .nsl]]) ∧ nx < s.nx ∧ s.heap id = some (2, [[.bool (decide ((((rdV (T.take i) 0) : Nat) : Int) < 0)), Wd .u64 (mag (((rdV (T.take i) 0) : Nat) : Int))]]) ∧ id < s.nx ∧ s.nt = 65) → K15 s := by
      rintro ⟨e, H, mm, nt⟩ ⟨g0c, g2c, g3c, g4c, g5c, g6c, g30c, g31c, g7c, g43c, Hzc, xzc, Hnc, xnc, rfl⟩
      simp only [] at g0c g2c g3c g4c g5c g6c g30c g31c g7c g43c Hzc xzc Hnc xnc
      refine hK15 _ ?_
      refine .c (t := !isDg (gt T i)) (fun h43 => ?_) (fun h43 => ?_) (by simp (disch := first|omega|(simp only[ln];omega)) [g43c])
      ·try simp only[dc]at h43
       have hno := rd_no (rd_bad (L := L) (i := i) (by rw [hT]; exact hi') (by rw [hT]; simpa using h43))
       refine .q ?_ (by simp (disch := first|omega|(simp only[ln];omega)) [g2c, Hzc]; rfl)
       refine .ret ?_
       exact hK _ _ _ _ trivial (((Fin.mk (r := .tup [.agg [.bool false, .nsl], .bool false]) (by simp (disch := omega) [aRes, aResL, aRes1, g2c])).weak (fun _ _ _ _ => tup0_weak)).cast (by rw [(hno).1, (hno).2]))
      ·try simp only[dc]at h43
       have hD : isDg (gt T i) = true := by simpa using h43
       have hD2 := isDg_iff.1 hD
       have bV := rdV_bg hdg (by rw [List.length_take]; omega)
       have hst := rdV_step hi'
       generalize rdV (T.take i) 0 = v at *
       have b10 : Bg 1 (10 : Int) := Bg.i64 (by omega) (by omega)
       have wc := wrap_u8s (x := gt T i - 48) (by omega) (by omega)
       have wi := wrap_i64s (x := gt T i - 48) (by omega) (by omega)
       obtain ⟨v2, hv2⟩ : ∃ v2 : Nat, v2 = v * 10 + (gt T i - 48).toNat := ⟨_, rfl⟩
       rw [← hv2] at hst
       have hst2 : ((v : Nat) : Int) * 10 + (gt T i - 48) = ((v2 : Nat) : Int) := by omega
       refine .skip ?_
       refine hK14 _ ?_
       refine .d 10 ?_
       refine .k 1 (fun fs17 hfs17 => ?_) (by simp (disch := first|omega|(simp only[ln];omega)) [runDf.eq_def, runF1, runF2, stepF.eq_def, updo.eq_def, hupo.eq_def, opSto1.eq_def, List.take_succ_cons, List.take_zero, g6c, g4c, g7c, Hnc, e1, e2, g1, hiN, wc, wi, numI_fold]; rfl)
       refine .f (whole_fc 10 (by omega) (by omega)) hb62 ?_ (ha := by simp (disch := first|omega|(simp only[ln];omega)) [idf_Wd', g6c, g4c, g7c, Hnc, e1, e2, g1, hiN, wc, wi, numI_fold])
       refine .f (by_fc bV b10 (by omega) (by omega)) hb137 ?_ (ha := by simp (disch := first|omega|(simp only[ln];omega)) [idf_Wd', g6c, g4c, g7c, Hnc, e1, e2, g1, hiN, wc, wi, numI_fold])
       refine .k 5 (fun fs18 hfs18 => ?_) (by simp (disch := first|omega|(simp only[ln];omega)) [runDf.eq_def, runF1, runF2, stepF.eq_def, updo.eq_def, hupo.eq_def, opSto1.eq_def, List.take_succ_cons, List.take_zero, g6c, g4c, g7c, Hnc, e1, e2, g1, hiN, wc, wi, numI_fold]; rfl)
       refine .f (whole_fc (gt T i - 48) (by omega) (by omega)) hb62 ?_ (ha := by simp (disch := first|omega|(simp only[ln];omega)) [idf_Wd', g6c, g4c, g7c, Hnc, e1, e2, g1, hiN, wc, wi, numI_fold])
       refine .f (plus_fc (bV.mul b10) (Bg.i64 (by omega) (by omega) : Bg 1 (gt T i - 48)) (by omega) (by omega)) hb138 ?_ (ha := by simp (disch := first|omega|(simp only[ln];omega)) [idf_Wd', g6c, g4c, g7c, Hnc, e1, e2, g1, hiN, wc, wi, numI_fold])
       refine .r 10 (by simp only[ln, hfs17, hfs18];omega) ?_ (by simp (disch := first|omega|(simp only[ln];omega)) [runDf.eq_def, runF1, runF2, stepF.eq_def, updo.eq_def, hupo.eq_def, opSto1.eq_def, g6c, g4c, g7c, Hnc, e1, e2, g1, hiN, wc, wi, numI_fold]; rfl)
       refine hK12 _ ?_
       refine .r ?_ (by simp (disch := first|omega|(simp only[ln];omega)) [g31c]; rfl)
       refine ⟨T.length - (i + 1), by omega, i + 1, id, rfl, by omega, by omega, take_dg hi' hdg hD, ?_, ?_, ?_, ?_, ?_, ?_, ?_, ?_, ?_, ?_, ?_, ?_, rfl⟩ <;> first|(simp (disch := omega) [g0c, g2c, g3c, g4c, g5c, g6c, g30c, g31c, g7c, g43c, Hzc, Hnc, hst, hst2];done)|omega|(simp;done)|(simp;omega)
     rcases (show gt T i < 48 ∨ (48 ≤ gt T i ∧ 57 < gt T i) ∨ (48 ≤ gt T i ∧ gt T i ≤ 57) by omega) with hk | ⟨hk, hk2⟩ | ⟨hk, hk2⟩
     ·refine .r ?_ (by simp (disch := first|omega|(simp only[ln];omega)) [g4, g31, e1, e2, g1, hiN, hk]; rfl)
      refine J15 _ ?_
      rw [show isDg (gt T i) = false by simp [isDg]; omega]
      refine ⟨?_, ?_, ?_, ?_, ?_, ?_, ?_, ?_, ?_, ?_, ?_, ?_, ?_, ?_, rfl⟩ <;> first|(simp (disch := omega) [g0, g2, g3, g4, g5, g6, g30, g31, Hz, Hn, hk];done)|omega|(simp;omega)
     ·have hn : decide (gt T i < 48) = false := decide_eq_false (by omega)
      refine .r ?_ (by simp (disch := first|omega|(simp only[ln];omega)) [g4, g31, e1, e2, g1, hiN, hk2, hn]; rfl)
      refine J15 _ ?_
      rw [show isDg (gt T i) = false by simp [isDg]; omega]
      refine ⟨?_, ?_, ?_, ?_, ?_, ?_, ?_, ?_, ?_, ?_, ?_, ?_, ?_, ?_, rfl⟩ <;> first|(simp (disch := omega) [g0, g2, g3, g4, g5, g6, g30, g31, Hz, Hn, hk2];done)|omega|(simp;omega)
     ·have hn : decide (gt T i < 48) = false := decide_eq_false (by omega)
      refine .r ?_ (by simp (disch := first|omega|(simp only[ln];omega)) [g4, g31, e1, e2, g1, hiN, hn]; rfl)
      refine J15 _ ?_
      rw [show isDg (gt T i) = true by simp [isDg]; omega]
      refine ⟨?_, ?_, ?_, ?_, ?_, ?_, ?_, ?_, ?_, ?_, ?_, ?_, ?_, ?_, rfl⟩ <;> first|(simp (disch := omega) [g0, g2, g3, g4, g5, g6, g30, g31, Hz, Hn, hk2];done)|omega|(simp;omega)
    ·try simp only[dc]at h32
     have hin : i = T.length := by omega
     rw [hin, List.take_length] at Hn hdg
     have bV := rdV_bg hdg hT100
     have hOk := rd_yes (rd_good (L := L) (by rw [hT]; exact hTn) hL100 (by rw [hT]; exact hdg))
     have md := made_fc (rdS L) (mag ((rdV T 0 : Nat) : Int)) (by have := bV.len; omega) (mag_dig _)
     have sgn := rdN_sg L
     rw [hT] at sgn
     rw [sgn] at md
     have bN := rdN_bg (L := L) (by rw [hT]; exact bV)
     have tx := numText_fc bN (by omega)
     refine .exit ?_
     refine hK8 _ ?_
     refine .sq fun K19 hK19 => ?_
     refine .region ?_
     refine .kf 3 md hb120 ?_ (by simp (disch := first|omega|(simp only[ln];omega)) [List.take_succ_cons, List.take_zero, g5, g6, Hn]; rfl) (ha := by simp (disch := first|omega|(simp only[ln];omega)) [idf_Wd', g5, g6, Hn])
     refine .e ?_ (by simp (disch := first|omega|(simp only[ln];omega)) [g5, g6, Hn]; rfl)
     refine hK19 _ ?_
     refine .sq fun K20 hK20 => ?_
     refine .old fun hold => ?_
     refine .d 5 ?_
     refine .k 1 (fun fs21 hfs21 => ?_) (by simp (disch := first|omega|(simp only[ln];omega)) [runDf.eq_def, runF1, runF2, stepF.eq_def, updo.eq_def, hupo.eq_def, opSto1.eq_def, List.take_succ_cons, List.take_zero, g0, g2, g6, Hz, numI_fold, sn_beq (decB_byt _) hb, Nat.ne_of_lt hid, Nat.ne_of_gt hid]; rfl)
     refine DP.runF1q (by simp (disch := first|omega|(simp only[ln];omega)) [runDf.eq_def, runF1, runF2, stepF.eq_def, updo.eq_def, hupo.eq_def, opSto1.eq_def, g0, g2, g6, Hz, numI_fold, sn_beq (decB_byt _) hb, Nat.ne_of_lt hid, Nat.ne_of_gt hid]; rfl) fun fq22 hfq22 => ?_
     simp [qids, asksB, Op.operands, topId] at hfq22
     simp only [updo]
     refine .f tx hb109 ?_ (ha := by simp (disch := first|omega|(simp only[ln];omega)) [idf_Wd', g0, g2, g6, Hz, numI_fold, sn_beq (decB_byt _) hb, Nat.ne_of_lt hid, Nat.ne_of_gt hid])
     refine DP.runF1q (by simp (disch := first|omega|(simp only[ln];omega)) [runDf.eq_def, runF1, runF2, stepF.eq_def, updo.eq_def, hupo.eq_def, opSto1.eq_def, g0, g2, g6, Hz, numI_fold, sn_beq (decB_byt _) hb, Nat.ne_of_lt hid, Nat.ne_of_gt hid]; rfl) fun fq23 hfq23 => ?_
     simp [qids, asksB, Op.operands, topId] at hfq23
     simp only [updo]
     refine DP.runF1q (by simp (disch := first|omega|(simp only[ln];omega)) [runDf.eq_def, runF1, runF2, stepF.eq_def, updo.eq_def, hupo.eq_def, opSto1.eq_def, g0, g2, g6, Hz, numI_fold, sn_beq (decB_byt _) hb, Nat.ne_of_lt hid, Nat.ne_of_gt hid]; rfl) fun fq24 hfq24 => ?_
     simp [qids, asksB, Op.operands, topId] at hfq24
     simp only [updo]
     refine DQ.sto1 (m := 5) [1, 3, 4] _ (by simp (disch := first|omega|(simp only[ln];omega)) [runDf.eq_def, runF1, runF2, stepF.eq_def, updo.eq_def, hupo.eq_def, opSto1.eq_def, g0, g2, g6, Hz, numI_fold, sn_beq (decB_byt _) hb, Nat.ne_of_lt hid, Nat.ne_of_gt hid]; rfl) rfl (by simp only[ln, hfs21];omega) (by kernel_rfl) (by intro k f hk hex; simp only [List.mem_cons, List.not_mem_nil, or_false] at hex; rcases hex with rfl | rfl | rfl <;> (simp [List.getElem?_append, hfs21] at hk; subst hk; refine ⟨?_, by first | omega | (simp; done) | (simp; omega)⟩; simp [qids, asksB, Op.operands, Call.operands, topId, numS, numI, Wd, hfq22, hfq23, hfq24, g2, g6, Nat.ne_of_gt hid]; try omega)) ?_
     try simp only []
     refine DQ.asg1 _ rfl rfl ?_
     simp only [updo]
     refine hK20 _ ?_
     refine .ret ?_
     exact hK _ _ _ _ trivial ((Fin.mk (r := .tup [numI (rdN L), .bool (decide (decB (rdN L) = L))]) (by simp (disch := omega) [aRes, aResL, aRes1, g2]; try rfl)).cast (by rw [hOk.1, hOk.2]))
  by_cases h0 : T = []
  ·have hT0 : T.length = 0 := by rw [h0]; rfl
   refine .r ?_ (by simp (disch := first|omega|(simp only[ln];omega)) [g0a, g4a, szT, hT0]; rfl)
   refine J5 _ ?_
   refine ⟨?_, ?_, ?_, ?_, ?_, ?_, ?_, ?_, rfl⟩ <;> first|(simp (disch := omega) [g0a, g2a, g3a, g5a, g4a, Hza, h0];done)|omega|(simp;omega)
  ·have hT0 : ((T.length : Int) == 0) = false := by simp [h0]
   refine .r ?_ (by simp (disch := first|omega|(simp only[ln];omega)) [g0a, g4a, szT, szL, hT0]; rfl)
   refine J5 _ ?_
   refine ⟨?_, ?_, ?_, ?_, ?_, ?_, ?_, ?_, rfl⟩ <;> first|(simp (disch := omega) [g0a, g2a, g3a, g5a, g4a, Hza, h0];done)|omega|(simp (disch := omega) [g0a, g2a, g3a, g5a, g4a, Hza, h0];omega)
 refine .sq fun K25 hK25 => ?_
 have J25 : ∀ s : St, (s.env 0 = .str (strOfNums L) ∧ s.env 2 = .ptr nx 0 0 ∧ s.env 3 = .bool false ∧ s.env 4 = .str (strOfNums L) ∧ s.env 5 = .bool false ∧ s.env 16 = .bool (rdS L) ∧ s.heap nx = some (2, [[.bool false, .nsl]]) ∧ nx < s.nx ∧ s.nt = 65) → K25 s := by
  rintro ⟨e, H, mm, nt⟩ ⟨g0, g2, g3, g4, g5, g16, Hz, xz, rfl⟩
  simp only [] at g0 g2 g3 g4 g5 g16 Hz xz
  refine hK25 _ ?_
  refine .c (t := rdS L) (fun h16 => ?_) (fun h16 => ?_) (by simp (disch := first|omega|(simp only[ln];omega)) [g16])
  ·try simp only[dc]at h16
   have hneg := rdT_neg h16
   have szN : 1 ≤ L.length := by rw [hneg]; simp
   have ex : (strOfNums L).extract 1 L.length = strOfNums (rdT L) := by
     rw [sn_ext]; congr 1; rw [List.take_length]
     exact (congrArg (List.drop 1) hneg).trans rfl
   refine .r ?_ (by simp (disch := first|omega|(simp only[ln];omega)) [if_pos, g0, szL, szN]; rfl)
   refine J3 _ ?_
   refine ⟨?_, ?_, ?_, ?_, ?_, ?_, ?_, rfl⟩ <;> first|(simp (disch := omega) [g0, g2, g3, g4, g5, g16, Hz, ex, szL, h16];done)|omega|(simp;omega)
  ·try simp only[dc]at h16
   have hS0 : rdS L = false := by simpa using h16
   have hpos := rdT_pos (L := L) (by rw [hS0]; simp)
   refine .skip ?_
   refine J3 _ ?_
   refine ⟨?_, ?_, ?_, ?_, ?_, ?_, ?_, rfl⟩ <;> first|(simp (disch := omega) [g0, g2, g3, g4, g5, g16, Hz, hpos, hS0];done)|omega|(simp;omega)
 rcases head3 L with ⟨hL, hT, hS⟩ | ⟨c, r, hL, hc, hT, hS⟩ | ⟨r, hL, hT, hS⟩
 ·have hL0 : L.length = 0 := by rw [hL]; rfl
  refine .r ?_ (by simp (disch := first|omega|(simp only[ln];omega)) [szL, hL0]; rfl)
  refine J25 _ ?_
  rw [hS]
  refine ⟨?_, ?_, ?_, ?_, ?_, ?_, ?_, ?_, rfl⟩ <;> first|(simp [hL];done)|omega|(simp;done)|(simp;omega)
 ·obtain ⟨x, e1, g1⟩ := sn_get hb (i := 0) (by rw [hL]; simp)
  have e2 := sn_at e1
  have szN : 0 < L.length := by rw [hL]; simp
  rw [show gt L 0 = c by rw [hL]; rfl] at g1
  refine .r ?_ (by simp (disch := first|omega|(simp only[ln];omega)) [szL, szN, e1, e2, g1]; rfl)
  refine J25 _ ?_
  rw [hS]
  refine ⟨?_, ?_, ?_, ?_, ?_, ?_, ?_, ?_, rfl⟩ <;> first|(simp [hc];done)|omega|(simp;done)|(simp;omega)
 ·obtain ⟨x, e1, g1⟩ := sn_get hb (i := 0) (by rw [hL]; simp)
  have e2 := sn_at e1
  have szN : 0 < L.length := by rw [hL]; simp
  rw [show gt L 0 = 45 by rw [hL]; rfl] at g1
  refine .r ?_ (by simp (disch := first|omega|(simp only[ln];omega)) [szL, szN, e1, e2, g1]; rfl)
  refine J25 _ ?_
  rw [hS]
  refine ⟨?_, ?_, ?_, ?_, ?_, ?_, ?_, ?_, rfl⟩ <;> first|(simp;done)|omega|(simp;omega)
end

end Go.Proofs.Ytdcajfgeleopiaa

/- Walks: texts cut; numbers in four words as texts. -/
namespace Go.Proofs.Ytdcajfgeleopiaa
open Go Go.RowKit
set_option linter.unusedSimpArgs false
set_option linter.unusedVariables false
set_option maxRecDepth 100000
attribute [local simp] szT3 byT3 agT3 unT3 zoT3 szT4 byT4 agT4 unT4 zoT4 szT9 byT9 agT9 stT9 zoT9 szT24 byT24 agT24 unT24 zoT24 szT26 byT26 agT26 flT26 fdT26_0 fdT26_1 fdT26_2 fdT26_3 zoT26 szT87 byT87 agT87 elT87 unT87 zoT87 szT89 byT89 agT89 flT89 fdT89_0 fdT89_1 zoT89

theorem nbIB : Bodyless Try.prog 191 Extern.BytealgIndexByte.indexByte := ⟨Try.f191, Try.func191, by kernel_rfl, by kernel_rfl, by kernel_rfl, by kernel_rfl⟩
theorem byt1 {c : Int} (hc : 0 ≤ c ∧ c < 256) : Byt [c] := fun x hx => by simp at hx; omega

theorem indexByte_fc (L : List Int) (c : Int) : FC Try.prog 181 [.str (strOfNums L), .int .u8 c] (.int .i64 (ixB L c : Int)) := by
 refine .b Try.func181 8 (fun nx K hK => ?_)
 refine .q ?_
 refine .sq fun K2 hK2 => ?_
 refine .region ?_
 refine .k 2 ?_
 refine .en (FE.indexByte nbIB L c) ?_
 refine .e ?_
 refine hK2 _ ?_
 refine .ret ?_
 exact hK _ _ _ _ trivial (Fin.m)
set_option maxHeartbeats 2000000 in
theorem index_fc (L : List Int) (hb : Byt L) (hl : L.length ≤ 9223372036854775800) (c : Int) (hc : 0 ≤ c ∧ c < 256) : FC Try.prog 158 [.str (strOfNums L), .str (strOfNums [c])] (.int .i64 (ixB L c : Int)) := by
 have szC := strOfNums_size [c]
 have eq1 := sn_beq (byt1 hc) hb
 refine .b Try.func158 143 (fun nx K hK => ?_)
 refine .q ?_
 refine .q ?_ (by simp (disch := first|omega|(simp only[ln];omega)) [szC]; rfl)
 refine .sq fun K3 hK3 => ?_
 refine .block ?_
 refine .q ?_ (by simp (disch := first|omega|(simp only[ln];omega)) [szC, eq1]; rfl)
 refine .c (t := decide ([c] = L)) (fun h16 => ?_) (fun h16 => ?_)
 ·try simp only[dc]at h16
  refine .q ?_
  refine .ret ?_
  exact hK _ _ _ _ trivial ((Fin.m).cast (by rw [← h16, ixB_cons hc hc, if_pos rfl]))
 ·try simp only[dc]at h16
  refine .q ?_ (by simp (disch := first|omega|(simp only[ln];omega)) [szC]; rfl)
  refine .c (t := true) (fun h24 => ?_) (fun h24 => ?_)
  ·try simp only[dc]at h24
   obtain ⟨x, e1, g1⟩ := sn_get (byt1 hc) (i := 0) (by simp)
   have e2 := sn_at e1
   rw [show gt [c] 0 = c from rfl] at g1
   refine .sq fun K7 hK7 => ?_
   refine .region ?_
   refine .kf 3 (indexByte_fc L c) hb181 ?_ (by simp (disch := first|omega|(simp only[ln];omega)) [List.take_succ_cons, List.take_zero, e1, e2, g1]; rfl) (ha := by simp (disch := first|omega|(simp only[ln];omega)) [idf_Wd', e1, e2, g1])
   refine .e ?_ (by simp (disch := first|omega|(simp only[ln];omega)) [e1, e2, g1]; rfl)
   refine hK7 _ ?_
   refine .ret ?_
   exact hK _ _ _ _ trivial ((Fin.m))
  ·simp at h24
set_option maxHeartbeats 2000000 in
theorem cutL_fc (L : List Int) (hb : Byt L) (hl : L.length ≤ 9223372036854775800) (c : Int) (hc : 0 ≤ c ∧ c < 256) : FC Try.prog 110 [.str (strOfNums L), .str (strOfNums [c])] (.tup [.str (strOfNums (ctA L c)), .str (strOfNums (ctB L c)), .bool (ctF L c)]) := by
 have szC := strOfNums_size [c]
 have szL := strOfNums_size L
 have rg := ixB_b hc hb
 refine .b Try.func110 23 (fun nx K hK => ?_)
 refine .q ?_
 refine .sq fun K2 hK2 => ?_
 refine .sq fun K3 hK3 => ?_
 refine .region ?_
 refine .kf 2 (index_fc L hb hl c hc) hb158 ?_
 refine .e ?_
 refine hK3 _ ?_
 refine .q ?_
 refine .c (t := decide (0 ≤ ixB L c)) (fun h12 => ?_) (fun h12 => ?_)
 ·try simp only[dc]at h12
  obtain ⟨i, hi⟩ : ∃ i : Nat, ixB L c = i := ⟨(ixB L c).toNat, by omega⟩
  have hct : ctF L c = true ∧ ctA L c = L.take i ∧ ctB L c = L.drop (i + 1) := by unfold ctF ctA ctB; rw [hi, if_pos (by omega), if_pos (by omega)]; exact ⟨by simp, rfl, rfl⟩
  have hin : i < L.length := by omega
  have x1 : (strOfNums L).extract 0 i = strOfNums (L.take i) := by rw [sn_ext, List.drop_zero]
  have x2 : (strOfNums L).extract (i + 1) L.length = strOfNums (L.drop (i + 1)) := by rw [sn_ext, List.take_length]
  have hi1 : ((i : Int) + 1).toNat = i + 1 := by omega
  have hi2 : i ≤ L.length := by omega
  refine .sq fun K5 hK5 => ?_
  refine .df 9 ?_ (by simp (disch := first|omega|(simp only[ln];omega)) [runDf.eq_def, runF1, runF2, stepF.eq_def, updo.eq_def, hupo.eq_def, opSto1.eq_def, if_pos, szC, szL, hi, x1, x2, hi1, hi2, hin]; rfl)
  refine hK5 _ ?_
  refine .ret ?_
  exact hK _ _ _ _ trivial ((Fin.m).cast (by rw [hct.1, hct.2.1, hct.2.2]))
 ·try simp only[dc]at h12
  have hct : ctF L c = false ∧ ctA L c = L ∧ ctB L c = [] := by unfold ctF ctA ctB; rw [if_neg h12, if_neg h12]; exact ⟨by simp; omega, rfl, rfl⟩
  refine .skip ?_
  refine hK2 _ ?_
  refine .q ?_
  refine .ret ?_
  exact hK _ _ _ _ trivial ((Fin.m).cast (by rw [hct.1, hct.2.1, hct.2.2]; rfl))
theorem cut_fc (L : List Int) (hb : Byt L) (hl : L.length ≤ 9223372036854775800) (c : Int) (hc : 0 ≤ c ∧ c < 256) : FC Try.prog 51 [.str (strOfNums L), .str (strOfNums [c])] (.tup [.str (strOfNums (ctA L c)), .str (strOfNums (ctB L c)), .bool (ctF L c)]) := by
 refine .b Try.func51 13 (fun nx K hK => ?_)
 refine .q ?_
 refine .sq fun K2 hK2 => ?_
 refine .region ?_
 refine .kf 2 (cutL_fc L hb hl c hc) hb110 ?_
 refine .e ?_
 refine hK2 _ ?_
 refine .ret ?_
 exact hK _ _ _ _ trivial ((Fin.m))
section
attribute [local simp] idf_numI cells_numI
theorem wideText_fc (x : W4) (ho : x.ok) : FC Try.prog 50 [.agg [.int .u64 (x).a, .int .u64 (x).b, .int .u64 (x).c, .int .u64 (x).d]] (.str (strOfNums (decB x.v))) := by
 obtain ⟨u0, u1, u2, u3⟩ := ho
 have wn : FC Try.prog 108 [.agg [.int .u64 (x).a, .int .u64 (x).b, .int .u64 (x).c, .int .u64 (x).d]] (numI x.v) := wideNum_fc x.a x.b x.c x.d u0 u1 u2 u3
 have bx : Bg 4 x.v := W4.bg ⟨u0, u1, u2, u3⟩
 have tx := numText_fc bx (by omega)
 refine .b Try.func50 6 (fun nx K hK => ?_)
 refine .q ?_
 refine .sq fun K2 hK2 => ?_
 refine .region ?_
 refine .kf 1 wn hb108 ?_
 refine .f tx hb109 ?_
 refine .e ?_
 refine hK2 _ ?_
 refine .ret ?_
 exact hK _ _ _ _ trivial ((Fin.m))
set_option maxHeartbeats 2000000 in
theorem readWide_fc (L : List Int) (hb : Byt L) (hl : L.length ≤ 9223372036854775800) : FC Try.prog 52 [.str (strOfNums L)] (.tup [.agg [.int .u64 (rwV L).a, .int .u64 (rwV L).b, .int .u64 (rwV L).c, .int .u64 (rwV L).d], .bool (rwB L)]) := by
 refine .b Try.func52 18 (fun nx K hK => ?_)
 refine .q ?_
 refine .sq fun K2 hK2 => ?_
 refine .region ?_
 refine .kf 1 (readNum_fc L hb (by omega)) hb111 ?_
 refine .e ?_
 refine hK2 _ ?_
 refine .sq fun K3 hK3 => ?_
 refine .q ?_
 refine .c (t := !rdB L) (fun h12 => ?_) (fun h12 => ?_)
 ·try simp only[dc]at h12
  have hr : rdB L = false := by simpa using h12
  have e1 : rwV L = ⟨0, 0, 0, 0⟩ := by unfold rwV; rw [hr]; rfl
  have e2 : rwB L = false := by unfold rwB; rw [hr]; rfl
  refine .q ?_
  refine .ret ?_
  exact hK _ _ _ _ trivial ((Fin.m).cast (by rw [e1, e2]))
 ·try simp only[dc]at h12
  have hr : rdB L = true := by simpa using h12
  have bI := rdI_bg L
  have wd := wide_fc bI (by omega)
  have e1 : rwV L = W4z (rdI L) := by unfold rwV; rw [if_pos hr]
  have e2 : rwB L = fits (rdI L) := by unfold rwB; rw [hr]; rfl
  rw [wdT_l] at wd
  unfold W4.l at wd
  refine .skip ?_
  refine hK3 _ ?_
  refine .sq fun K6 hK6 => ?_
  refine .region ?_
  refine .kf 1 wd hb107 ?_ (by simp (disch := first|omega|(simp only[ln];omega)) [List.take_succ_cons, List.take_zero, numI_fold]; rfl) (ha := by simp (disch := first|omega|(simp only[ln];omega)) [idf_Wd', numI_fold])
  refine .e ?_ (by simp (disch := first|omega|(simp only[ln];omega)) [numI_fold]; rfl)
  refine hK6 _ ?_
  refine .ret ?_
  exact hK _ _ _ _ trivial ((Fin.m).cast (by rw [e1, e2]))
end

end Go.Proofs.Ytdcajfgeleopiaa

/- Walks: ratios and points as texts, by the program. -/
namespace Go.Proofs.Ytdcajfgeleopiaa
open Go Go.RowKit
set_option linter.unusedSimpArgs false
set_option linter.unusedVariables false
set_option maxRecDepth 100000
attribute [local simp] szT9 byT9 agT9 stT9 zoT9 szT24 byT24 agT24 unT24 zoT24 szT26 byT26 agT26 flT26 fdT26_0 fdT26_1 fdT26_2 fdT26_3 zoT26 szT28 byT28 agT28 flT28 fdT28_0 fdT28_1 zoT28

theorem wideOf1_fc : FC Try.prog 49 [.int .i64 1] (.agg [.int .u64 (W4z 1).a, .int .u64 (W4z 1).b, .int .u64 (W4z 1).c, .int .u64 (W4z 1).d]) := by
  have h := wideOf_fc 1 (by omega) (by omega)
  rw [show wdZ 1 = wdT 1 from by unfold wdT; rw [if_pos (by decide)], wdT_l] at h
  exact h
theorem eqW4d (x y : W4) : eqW Try.prog 8 26 [.int .u64 (x).a, .int .u64 (x).b, .int .u64 (x).c, .int .u64 (x).d] [.int .u64 (y).a, .int .u64 (y).b, .int .u64 (y).c, .int .u64 (y).d] = some (decide (x = y)) := by
  rw [eqW4]; congr 1; rw [Bool.eq_iff_iff]; cases x; cases y; simp [and_assoc]
theorem s47 : ({ data := #[47] } : ByteArray) = strOfNums [47] := rfl
theorem s44 : ({ data := #[44] } : ByteArray) = strOfNums [44] := rfl
theorem s0 : ({ data := #[] } : ByteArray) = strOfNums [] := rfl
theorem decB_le {x : W4} (h : x.ok) : (decB x.v).length ≤ 100 := by
  have hb := W4.bg h
  refine decB_len (k := 99) (by omega) ?_
  unfold Bg at hb
  have : (18446744073709551616 : Nat) ^ 4 ≤ 10 ^ 99 := by decide
  omega

set_option maxHeartbeats 2000000 in
theorem ratioText_fc (a : Rt) (ha : a.ok) : FC Try.prog 12 [.agg [.int .u64 (a).up.a, .int .u64 (a).up.b, .int .u64 (a).up.c, .int .u64 (a).up.d, .int .u64 (a).down.a, .int .u64 (a).down.b, .int .u64 (a).down.c, .int .u64 (a).down.d]] (.str (strOfNums (rtT a))) := by
 have lu := decB_le ha.1
 have ld := decB_le ha.2
 have lu1 : (decB a.up.v).length ≤ 9223372036854775806 := by omega
 have lu2 : (decB a.up.v).length + 1 + (decB a.down.v).length ≤ 9223372036854775807 := by omega
 have lu3 : (decB a.up.v).length + (1 + (decB a.down.v).length) ≤ 9223372036854775807 := by omega
 refine .b Try.func12 23 (fun nx K hK => ?_)
 refine .q ?_
 refine .sq fun K2 hK2 => ?_
 refine .block ?_
 refine .sq fun K3 hK3 => ?_
 refine .region ?_
 refine .kf 1 (ratioOkI_fc a ha) hb15 ?_ (by simp (disch := first|omega|(simp only[ln];omega)) [List.take_succ_cons, List.take_zero, Rt.av, Rt.cells]; rfl) (ha := by simp (disch := first|omega|(simp only[ln];omega)) [idf_Wd', Rt.av, Rt.cells])
 refine .e ?_ (by simp (disch := first|omega|(simp only[ln];omega)) [Rt.av, Rt.cells]; rfl)
 refine hK3 _ ?_
 refine .c (t := !a.good) (fun h3 => ?_) (fun h3 => ?_)
 ·try simp only[dc]at h3
  have hT : rtT a = [] := by unfold rtT; rw [if_neg (by simpa using h3)]
  refine .q ?_
  refine .ret ?_
  exact hK _ _ _ _ trivial ((Fin.m).cast (by rw [hT]; rfl))
 ·try simp only[dc]at h3
  have hg : a.good = true := by simpa using h3
  refine .sq fun K5 hK5 => ?_
  refine .d 4 ?_
  refine .k 2 (fun fs6 hfs6 => ?_) (by simp (disch := first|omega|(simp only[ln];omega)) [runDf.eq_def, runF1, runF2, stepF.eq_def, updo.eq_def, hupo.eq_def, opSto1.eq_def, List.take_succ_cons, List.take_zero, eqW4d]; rfl)
  refine .f wideOf1_fc hb49 ?_ (ha := by simp (disch := first|omega|(simp only[ln];omega)) [idf_Wd', eqW4d])
  refine .k 1 (fun fs7 hfs7 => ?_) (by simp (disch := first|omega|(simp only[ln];omega)) [runDf.eq_def, runF1, runF2, stepF.eq_def, updo.eq_def, hupo.eq_def, opSto1.eq_def, List.take_succ_cons, List.take_zero, eqW4d]; rfl)
  refine .r 4 (by simp only[ln, hfs6, hfs7];omega) ?_ (by simp (disch := first|omega|(simp only[ln];omega)) [runDf.eq_def, runF1, runF2, stepF.eq_def, updo.eq_def, hupo.eq_def, opSto1.eq_def, eqW4d]; rfl)
  refine hK5 _ ?_
  refine .c (t := decide (a.down = W4z 1)) (fun h7 => ?_) (fun h7 => ?_)
  ·try simp only[dc]at h7
   have hT : rtT a = decB a.up.v := by unfold rtT; rw [if_pos hg, if_pos h7]
   refine .sq fun K8 hK8 => ?_
   refine .region ?_
   refine .kf 2 (wideText_fc a.up ha.1) hb50 ?_
   refine .e ?_
   refine hK8 _ ?_
   refine .ret ?_
   exact hK _ _ _ _ trivial ((Fin.m).cast (by rw [hT]))
  ·try simp only[dc]at h7
   have hT : rtT a = decB a.up.v ++ 47 :: decB a.down.v := by unfold rtT; rw [if_pos hg, if_neg h7]
   refine .skip ?_
   refine hK2 _ ?_
   refine .sq fun K9 hK9 => ?_
   refine .d 8 ?_
   refine .k 2 (fun fs10 hfs10 => ?_) (by simp (disch := first|omega|(simp only[ln];omega)) [runDf.eq_def, runF1, runF2, stepF.eq_def, updo.eq_def, hupo.eq_def, opSto1.eq_def, List.take_succ_cons, List.take_zero, s47, s44, s0, sn_app, strOfNums_size, List.length_append, lu1, lu2, lu3]; rfl)
   refine .f (wideText_fc a.up ha.1) hb50 ?_ (ha := by simp (disch := first|omega|(simp only[ln];omega)) [idf_Wd', s47, s44, s0, sn_app, strOfNums_size, List.length_append, lu1, lu2, lu3])
   refine .k 3 (fun fs11 hfs11 => ?_) (by simp (disch := first|omega|(simp only[ln];omega)) [runDf.eq_def, runF1, runF2, stepF.eq_def, updo.eq_def, hupo.eq_def, opSto1.eq_def, List.take_succ_cons, List.take_zero, s47, s44, s0, sn_app, strOfNums_size, List.length_append, lu1, lu2, lu3]; rfl)
   refine .f (wideText_fc a.down ha.2) hb50 ?_ (ha := by simp (disch := first|omega|(simp only[ln];omega)) [idf_Wd', s47, s44, s0, sn_app, strOfNums_size, List.length_append, lu1, lu2, lu3])
   refine .k 1 (fun fs12 hfs12 => ?_) (by simp (disch := first|omega|(simp only[ln];omega)) [runDf.eq_def, runF1, runF2, stepF.eq_def, updo.eq_def, hupo.eq_def, opSto1.eq_def, List.take_succ_cons, List.take_zero, s47, s44, s0, sn_app, strOfNums_size, List.length_append, lu1, lu2, lu3]; rfl)
   refine .r 8 (by simp only[ln, hfs10, hfs11, hfs12];omega) ?_ (by simp (disch := first|omega|(simp only[ln];omega)) [runDf.eq_def, runF1, runF2, stepF.eq_def, updo.eq_def, hupo.eq_def, opSto1.eq_def, s47, s44, s0, sn_app, strOfNums_size, List.length_append, lu1, lu2, lu3]; rfl)
   refine hK9 _ ?_
   refine .ret ?_
   exact hK _ _ _ _ trivial ((Fin.m).cast (by rw [hT]))
set_option maxHeartbeats 4000000 in
theorem readRatio_fc (L : List Int) (hb : Byt L) (hl : L.length ≤ 9223372036854775800) : FC Try.prog 13 [.str (strOfNums L)] (.tup [.agg [.int .u64 (rrV L).up.a, .int .u64 (rrV L).up.b, .int .u64 (rrV L).up.c, .int .u64 (rrV L).up.d, .int .u64 (rrV L).down.a, .int .u64 (rrV L).down.b, .int .u64 (rrV L).down.c, .int .u64 (rrV L).down.d], .bool (rrB L)]) := by
 refine .b Try.func13 45 (fun nx K hK => ?_)
 refine .q ?_
 refine .sq fun K2 hK2 => ?_
 refine .region ?_
 refine .kf 1 (cut_fc L hb hl 47 ne47) hb51 ?_ (by simp (disch := first|omega|(simp only[ln];omega)) [List.take_succ_cons, List.take_zero, s47]; rfl) (ha := by simp (disch := first|omega|(simp only[ln];omega)) [idf_Wd', s47])
 refine .e ?_ (by simp (disch := first|omega|(simp only[ln];omega)) [s47]; rfl)
 refine hK2 _ ?_
 refine .sq fun K3 hK3 => ?_
 refine .region ?_
 refine .f wideOf1_fc hb49 ?_
 refine .e ?_
 refine hK3 _ ?_
 refine .q ?_
 refine .sq fun K5 hK5 => ?_
 refine .region ?_
 refine .kf 1 (readWide_fc (ctA L 47) (ctA_byt hb _) (by have := ctA_len L 47; omega)) hb52 ?_
 refine .e ?_
 refine hK5 _ ?_
 refine .sq fun K6 hK6 => ?_
 have J6 : ∀ s : St, (s.env 0 = .str (strOfNums L) ∧ s.env 2 = .ptr nx 0 0 ∧ s.env 7 = .ptr (nx + 1) 0 0 ∧ s.env 8 = .bool (rwB (ctA L 47)) ∧ s.env 9 = .bool (if ctF L 47 = true then rwB (ctB L 47) else true) ∧ s.heap nx = some (8, [[.int .u64 0, .int .u64 0, .int .u64 0, .int .u64 0, .int .u64 0, .int .u64 0, .int .u64 0, .int .u64 0]]) ∧ nx < s.nx ∧ s.heap (nx + 1) = some (8, [[.int .u64 ((rrC L).up).a, .int .u64 ((rrC L).up).b, .int .u64 ((rrC L).up).c, .int .u64 ((rrC L).up).d, .int .u64 ((rrC L).down).a, .int .u64 ((rrC L).down).b, .int .u64 ((rrC L).down).c, .int .u64 ((rrC L).down).d]]) ∧ (nx + 1) < s.nx ∧ s.nt = 45) → K6 s := by
  rintro ⟨e, H, mm, nt⟩ ⟨g0, g2, g7, g8, g9, Hz, xz, Hc, xc, rfl⟩
  simp only [] at g0 g2 g7 g8 g9 Hz xz Hc xc
  refine hK6 _ ?_
  refine .sq fun K7 hK7 => ?_
  refine .sq fun K8 hK8 => ?_
  obtain ⟨ok2, hok2⟩ : ∃ b, (if ctF L 47 = true then rwB (ctB L 47) else true) = b := ⟨_, rfl⟩
  obtain ⟨ok1, hok1⟩ : ∃ b, rwB (ctA L 47) = b := ⟨_, rfl⟩
  have hBB : rrB L = (ok1 && (ok2 && decide (rtT (rrC L) = L))) := by unfold rrB; rw [hok1, hok2]
  rw [hok1] at g8
  rw [hok2] at g9
  clear hok1 hok2
  rcases (show ok1 = false ∨ (ok1 = true ∧ ok2 = false) ∨ (ok1 = true ∧ ok2 = true) by cases ok1 <;> cases ok2 <;> simp) with rfl | ⟨rfl, rfl⟩ | ⟨rfl, rfl⟩
  ·refine .r ?_ (by simp (disch := first|omega|(simp only[ln];omega)) [g8]; rfl)
   refine hK8 _ ?_
   refine .c (t := true) (fun h42 => ?_) (fun h42 => ?_)
   ·try simp only[dc]at h42
    have hB : rrB L = false := by rw [hBB]; rfl
    refine .q ?_ (by simp (disch := first|omega|(simp only[ln];omega)) [g2, Hz]; rfl)
    refine .ret ?_
    exact hK _ _ _ _ trivial ((Fin.mk (r := .tup [.agg [.int .u64 0, .int .u64 0, .int .u64 0, .int .u64 0, .int .u64 0, .int .u64 0, .int .u64 0, .int .u64 0], .bool false]) (by simp (disch := omega) [aRes, aResL, aRes1, g2]; try rfl)).cast (by unfold rrV; rw [hB]; rfl))
   ·simp at h42
  ·refine .r ?_ (by simp (disch := first|omega|(simp only[ln];omega)) [g8, g9]; rfl)
   refine hK8 _ ?_
   refine .c (t := true) (fun h42 => ?_) (fun h42 => ?_)
   ·try simp only[dc]at h42
    have hB : rrB L = false := by rw [hBB]; rfl
    refine .q ?_ (by simp (disch := first|omega|(simp only[ln];omega)) [g2, Hz]; rfl)
    refine .ret ?_
    exact hK _ _ _ _ trivial ((Fin.mk (r := .tup [.agg [.int .u64 0, .int .u64 0, .int .u64 0, .int .u64 0, .int .u64 0, .int .u64 0, .int .u64 0, .int .u64 0], .bool false]) (by simp (disch := omega) [aRes, aResL, aRes1, g2]; try rfl)).cast (by unfold rrV; rw [hB]; rfl))
   ·simp at h42
  ·refine .region ?_
   refine .kf 8 (ratioText_fc (rrC L) (rrC_ok L)) hb12 ?_ (by simp (disch := first|omega|(simp only[ln];omega)) [List.take_succ_cons, List.take_zero, g0, g7, g8, g9, Hc, sn_beq (rtT_byt _) hb]; rfl) (ha := by simp (disch := first|omega|(simp only[ln];omega)) [idf_Wd', g0, g7, g8, g9, Hc, sn_beq (rtT_byt _) hb])
   refine .e ?_ (by simp (disch := first|omega|(simp only[ln];omega)) [g0, g7, g8, g9, Hc, sn_beq (rtT_byt _) hb]; rfl)
   refine hK8 _ ?_
   refine .c (t := !decide (rtT (rrC L) = L)) (fun h42 => ?_) (fun h42 => ?_)
   ·try simp only[dc]at h42
    have hB : rrB L = false := by rw [hBB]; simpa using h42
    refine .q ?_ (by simp (disch := first|omega|(simp only[ln];omega)) [g2, Hz]; rfl)
    refine .ret ?_
    exact hK _ _ _ _ trivial ((Fin.mk (r := .tup [.agg [.int .u64 0, .int .u64 0, .int .u64 0, .int .u64 0, .int .u64 0, .int .u64 0, .int .u64 0, .int .u64 0], .bool false]) (by simp (disch := omega) [aRes, aResL, aRes1, g2]; try rfl)).cast (by unfold rrV; rw [hB]; rfl))
   ·try simp only[dc]at h42
    have hB : rrB L = true := by rw [hBB]; simpa using h42
    have hV : rrV L = rrC L := by unfold rrV; rw [if_pos hB]
    refine .skip ?_
    refine hK7 _ ?_
    refine .q ?_ (by simp (disch := first|omega|(simp only[ln];omega)) [g2, g7, Hz, Hc]; rfl)
    refine .ret ?_
    exact hK _ _ _ _ trivial ((Fin.mk (r := .tup [.agg [.int .u64 ((rrC L).up).a, .int .u64 ((rrC L).up).b, .int .u64 ((rrC L).up).c, .int .u64 ((rrC L).up).d, .int .u64 ((rrC L).down).a, .int .u64 ((rrC L).down).b, .int .u64 ((rrC L).down).c, .int .u64 ((rrC L).down).d], .bool true]) (by simp (disch := omega) [aRes, aResL, aRes1, g2]; try rfl)).cast (by rw [hV, hB]))
 refine .q ?_
 refine .c (t := ctF L 47) (fun h24 => ?_) (fun h24 => ?_)
 ·try simp only[dc]at h24
  refine .region ?_
  refine .kf 1 (readWide_fc (ctB L 47) (ctB_byt hb _) (by have := ctB_len L 47; omega)) hb52 ?_
  refine .e ?_
  refine J6 _ ?_
  have e1 : (rrC L).up = rwV (ctA L 47) := rfl
  have e2 : (rrC L).down = rwV (ctB L 47) := by unfold rrC; simp only []; rw [if_pos h24]
  refine ⟨?_, ?_, ?_, ?_, ?_, ?_, ?_, ?_, ?_, rfl⟩ <;> first|(simp (disch := omega) [e1, e2, h24];done)|omega|(simp;omega)
 ·try simp only[dc]at h24
  refine .skip ?_
  refine J6 _ ?_
  have hF : ctF L 47 = false := by simpa using h24
  have e1 : (rrC L).up = rwV (ctA L 47) := rfl
  have e2 : (rrC L).down = W4z 1 := by unfold rrC; simp only []; rw [hF]; rfl
  refine ⟨?_, ?_, ?_, ?_, ?_, ?_, ?_, ?_, ?_, rfl⟩ <;> first|(simp (disch := omega) [e1, e2, hF];done)|omega|(simp;omega)

end Go.Proofs.Ytdcajfgeleopiaa

/- Walks: numbers in decimal, by the statements' program. -/
namespace Go.Proofs.Ytdcajfgeleopiaa
open Go Go.RowKit
set_option linter.unusedSimpArgs false
set_option linter.unusedVariables false
set_option maxRecDepth 100000
attribute [local simp] szT3 byT3 agT3 unT3 zoT3 szT4 byT4 agT4 unT4 zoT4 szT5 byT5 agT5 unT5 zoT5 szT9 byT9 agT9 stT9 zoT9 szT22 byT22 agT22 elT22 unT22 zoT22 szT24 byT24 agT24 unT24 zoT24 szT78 byT78 agT78 elT78 unT78 zoT78 szT80 byT80 agT80 flT80 fdT80_0 fdT80_1 zoT80 szT148 byT148 agT148 unT148 zoT148

theorem s45 : ({ data := #[45] } : ByteArray) = strOfNums [45] := rfl

section
attribute [local simp] idf_numS cells_numS
set_option maxHeartbeats 4000000 in
theorem l1Text_fc {k : Nat} {n : Int} (bn : Bg k n) (hk : k ≤ 1024) : FC Try.prog 57 [numS n] (.str (strOfNums (decB n))) := by
 have hn1 : n.natAbs < 10 ^ (20 * k) := Nat.lt_of_lt_of_le bn (pow_b k)
 have hdl : (decR n.natAbs).length ≤ 4096000000000 := by
   have := decD_len hn1
   unfold decR; rw [List.length_map]; omega
 clear hn1
 have dg_abs : dg ((n.natAbs : Nat) : Int) = dg n := by unfold dg; rw [Int.natAbs_natCast]
 have bl : ∀ m : Nat, m ≤ n.natAbs → (dg ((m : Nat) : Int)).length ≤ 2048 := fun m hm => by
   have : Bg k ((m : Nat) : Int) := by unfold Bg at *; rw [Int.natAbs_natCast]; omega
   have := this.len32; omega
 refine .b Try.func57 58 (fun nx K hK => ?_)
 refine .q ?_
 refine .sq fun K2 hK2 => ?_
 refine .q ?_ (by simp (disch := first|omega|(simp only[ln];omega)) [len_Wd (P := Try.prog) #[78] rfl elT78, numS]; rfl)
 refine .c (t := (((dg n).length : Int) == 0)) (fun h11 => ?_) (fun h11 => ?_)
 ·try simp only[dc]at h11
  have hn : n = 0 := dg_len0.1 (by have := beq_iff_eq.1 h11; omega)
  refine .q ?_
  refine .ret ?_
  exact hK _ _ _ _ trivial ((Fin.m).cast (by rw [hn]; rfl))
 ·try simp only[dc]at h11
  have hn : n ≠ 0 := fun h => by rw [h, dg_zero] at h11; simp at h11
  refine .skip ?_
  refine hK2 _ ?_
  refine .q ?_
  refine .q ?_
  refine .sq fun K7 hK7 => ?_
  refine .block ?_
  refine .loop (fun N s => ∃ (m : Nat) (c : List Int), N = m ∧ m ≤ n.natAbs ∧ (decR m).reverse ++ c = (decR n.natAbs).reverse ∧ Byt c ∧ s.env 1 = .ptr nx 0 0 ∧ s.env 3 = .str (strOfNums c) ∧ s.env 4 = Wd .u32 (dg ((m : Nat) : Int)) ∧ s.heap nx = some (2, [[.bool (decide (n < 0)), Wd .u32 (dg n)]]) ∧ nx < s.nx ∧ s.nt = 58) (n.natAbs) (by refine ⟨n.natAbs, [], rfl, Nat.le_refl _, by simp, (fun x hx => by simp at hx), ?_, ?_, ?_, ?_, ?_, rfl⟩ <;> first|(simp (disch := omega) [dg_abs];done)|omega|(simp [dg_abs];rfl)|(simp;omega)) ?_
  rintro N ⟨e, H, mm, nt⟩ ⟨m, c, hN, hm, hc, hcb, g1, g3, g4, Ha, xa, rfl⟩
  simp only [] at g1 g3 g4 Ha xa
  refine .sq fun K8 hK8 => ?_
  refine .q ?_ (by simp (disch := first|omega|(simp only[ln];omega)) [len_Wd (P := Try.prog) #[78] rfl elT78, g4]; rfl)
  refine .c (t := decide (0 < ((dg ((m : Nat) : Int)).length : Int))) (fun h16 => ?_) (fun h16 => ?_)
  ·try simp only[dc]at h16
   have hm0 : m ≠ 0 := fun h => by
     have := dg_len0.2 (show ((m : Nat) : Int) = 0 by omega)
     omega
   have hdr := decR_pos hm0
   have hWl := bl m hm
   have hWd := dg_dig ((m : Nat) : Int)
   have hWv := dg_val ((m : Nat) : Int)
   rw [Int.natAbs_natCast] at hWv
   generalize dg ((m : Nat) : Int) = W at *
   refine .skip ?_
   refine hK8 _ ?_
   refine .block ?_
   refine .q ?_ (by simp (disch := first|omega|(simp only[ln];omega)) [if_pos, len_Wd (P := Try.prog) #[78] rfl elT78, g4]; rfl)
   refine .q ?_
   refine .sq fun K12 hK12 => ?_
   refine .q ?_ (by simp (disch := first|omega|(simp only[ln];omega)) [len_Wd (P := Try.prog) #[78] rfl elT78, g4]; rfl)
   refine .block ?_
   refine .loop (fun N s => ∃ (j id : Nat) (Q : List Int) (r : Int), N = j ∧ j ≤ W.length ∧ Q.length = W.length ∧ Dig 4294967296 Q ∧ 0 ≤ r ∧ r < 10 ∧ val 4294967296 (W.drop j) = 10 * val 4294967296 (Q.drop j) + r ∧ nx < id ∧ s.env 1 = .ptr nx 0 0 ∧ s.env 3 = .str (strOfNums c) ∧ s.env 4 = Wd .u32 W ∧ s.env 5 = .osl id 0 W.length ∧ s.env 6 = .int .u64 r ∧ s.env 7 = .int .i64 ((j : Int) - 1) ∧ s.heap nx = some (2, [[.bool (decide (n < 0)), Wd .u32 (dg n)]]) ∧ nx < s.nx ∧ s.heap id = some (1, wd .u32 Q) ∧ id < s.nx ∧ s.nt = 58) (W.length) (by refine ⟨W.length, mm, List.replicate W.length 0, 0, rfl, Nat.le_refl _, by simp, Dig.replicate _ (by omega) (by omega), by omega, by omega, by simp [val], by omega, ?_, ?_, ?_, ?_, ?_, ?_, ?_, ?_, ?_, ?_, rfl⟩ <;> first|(simp (disch := omega) [g1, g3, g4, Ha, wd_replicate];done)|omega|(simp;omega)) ?_
   rintro N ⟨e, H, mm, nt⟩ ⟨j, id, Q, r, hN, hj, hQ, hQd, hr0, hr1, hv, hid, g1i, g3i, g4i, g5i, g6i, g7i, Hai, xai, Hoi, xoi, rfl⟩
   simp only [] at g1i g3i g4i g5i g6i g7i Hai xai Hoi xoi
   refine .sq fun K14 hK14 => ?_
   refine .q ?_ (by simp (disch := first|omega|(simp only[ln];omega)) [g7i]; rfl)
   refine .c (fun h24 => ?_) (fun h24 => ?_)
   ·try simp only[dc]at h24
    obtain ⟨p, rfl⟩ : ∃ p, j = p + 1 := ⟨j - 1, by omega⟩
    have hp : p < W.length := by omega
    have hp1 : ((p + 1 : Nat) : Int) - 1 = p := by omega
    have hgW := hWd.gt (by omega) p
    obtain ⟨x, hx⟩ : ∃ x, x = r * 4294967296 + gt W p := ⟨_, rfl⟩
    have hor : bits .or .u64 (r * 4294967296) (gt W p) = x := by rw [or_join2 (by omega) (by omega) hr0 (by omega), hx]
    have hts := ten_step hQ hp hr0 hv hx
    have td : Int.tdiv x 10 = x / 10 := Int.tdiv_eq_ediv_of_nonneg (by omega)
    have tm : Int.tmod x 10 = x % 10 := Int.tmod_eq_emod_of_nonneg (by omega)
    have w1 : IntKind.u64.wrap (r * 4294967296) = r * 4294967296 := wrap_u64s (by omega) (by omega)
    have w2 : IntKind.u64.wrap (gt W p) = gt W p := wrap_u64s (by omega) (by omega)
    have w3 : IntKind.u32.wrap (x / 10) = x / 10 := wrap_u32s (by omega) (by omega)
    have hpQ : p < Q.length := by omega
    refine .skip ?_
    refine hK14 _ ?_
    refine .sq fun K16 hK16 => ?_
    refine .block ?_
    refine .q ?_ (by simp (disch := first|omega|(simp only[ln];omega)) [idx_WdD (P := Try.prog) elT78 szT148, if_pos, g4i, g6i, g7i, hp1, hor, w1, w2, IntKind.bits, ld_ip agT148]; rfl)
    refine .q ?_ (by simp (disch := first|omega|(simp only[ln];omega)) [idx_WdD (P := Try.prog) elT78 szT148, if_pos, g5i, g6i, g7i, Hoi, hp1, td, w3, hpQ]; rfl)
    refine .r ?_ (by simp (disch := first|omega|(simp only[ln];omega)) [g6i, tm]; rfl)
    refine hK16 _ ?_
    refine .r ?_ (by simp (disch := first|omega|(simp only[ln];omega)) [g7i, hp1]; rfl)
    refine ⟨p, by omega, p, id, Q.set p (x / 10), x % 10, rfl, by omega, by simp [hQ], hQd.set p (by omega) (by omega), by omega, by omega, hts, hid, ?_, ?_, ?_, ?_, ?_, ?_, ?_, ?_, ?_, ?_, rfl⟩ <;> first|(simp (disch := omega) [g1i, g3i, g4i, g5i, g6i, g7i, Hai, Hoi, hp1, wd_set];done)|omega|(simp;done)|(simp;omega)|(simp (disch := omega) [g1i, g3i, g4i, g5i, g6i, g7i, Hai, Hoi, hp1, wd_set] <;> omega)
   ·try simp only[dc]at h24
    have hj0 : j = 0 := by omega
    subst hj0
    rw [List.drop_zero, List.drop_zero, hWv] at hv
    have hQv : 0 ≤ val 4294967296 Q := val_nonneg hQd
    have ten1 : val 4294967296 Q = ((m / 10 : Nat) : Int) := by omega
    have ten2 : r = ((m % 10 : Nat) : Int) := by omega
    have w8 : IntKind.u8.wrap (48 + r) = 48 + r := wrap_u8s (by omega) (by omega)
    have w9 : IntKind.u64.wrap (48 + r) = 48 + r := wrap_u64s (by omega) (by omega)
    have hcl : 1 + c.length ≤ 9223372036854775807 := by have := congrArg List.length hc; simp at this; omega
    refine .exit ?_
    refine hK12 _ ?_
    refine .sq fun K19 hK19 => ?_
    refine AWP.region ?_
    refine AOPS.runk 4 (by simp (disch := first|omega|(simp only[ln];omega)) [List.take_succ_cons, List.take_zero, g3i, g6i, Wd, numsOf_wd, sn_app, strOfNums_size, w8, w9, hcl]; rfl) ?_
    simp only [List.drop_succ_cons, List.drop_zero]
    refine AOPS.frz1 46 mm 1 (wd .u8 [48 + r]) (Wd .u8 [48 + r]) (by simp) (by simp; first | exact fz_wd rfl | exact isl_take_wd (by simp)) ?_
    refine AOPS.all (by simp (disch := first|omega|(simp only[ln];omega)) [List.take_succ_cons, List.take_zero, g3i, g6i, Wd, numsOf_wd, sn_app, strOfNums_size, w8, w9, hcl]; rfl) ?_
    refine hK19 _ ?_
    refine .region ?_
    refine .k 1 ?_ (by simp (disch := first|omega|(simp only[ln];omega)) [List.take_succ_cons, List.take_zero, g5i]; rfl)
    refine AOPS.frz1 50 id 1 (wd .u32 Q) (Wd .u32 Q) (by simp (disch := omega) [Hoi]) (by simp [g5i]; first | exact fz_wd hQ.symm | exact isl_take_wd (by omega)) ?_
    refine .f (l1Trim_fc false Q (by omega) hQd) hb116 ?_ (ha := by simp (disch := first|omega|(simp only[ln];omega)) [idf_Wd', g5i])
    refine .e ?_ (by simp (disch := first|omega|(simp only[ln];omega)) [g5i]; rfl)
    refine ⟨m / 10, by omega, m / 10, (48 + ((m % 10 : Nat) : Int)) :: c, rfl, by omega, by rw [← hc, hdr]; simp, byt_cons (by omega) hcb, ?_, ?_, ?_, ?_, ?_, rfl⟩ <;> first|(simp (disch := omega) [g1i, g3i, g4i, g5i, g6i, g7i, Hai, Hoi, sn_app, ten1, ten2, sg_false];done)|omega|(simp;done)|(simp;omega)
  ·try simp only[dc]at h16
   have hm0 : m = 0 := by
     have := (dg_len0 (z := ((m : Nat) : Int))).1 (by omega)
     omega
   subst hm0
   rw [decR_zero, List.reverse_nil, List.nil_append] at hc
   have hZ : decZ n.natAbs = decR n.natAbs := by unfold decZ; rw [if_neg (by omega)]
   have hcl : 1 + c.length ≤ 9223372036854775807 := by rw [hc, List.length_reverse]; omega
   refine .exit ?_
   refine hK7 _ ?_
   refine .sq fun K20 hK20 => ?_
   refine .q ?_ (by simp (disch := first|omega|(simp only[ln];omega)) [g1, Ha]; rfl)
   refine .c (t := decide (n < 0)) (fun h54 => ?_) (fun h54 => ?_)
   ·try simp only[dc]at h54
    have hT : decB n = 45 :: c := by rw [decB_neg h54, hZ, hc]
    have hcl2 : c.length ≤ 9223372036854775806 := by omega
    refine .q ?_ (by simp (disch := first|omega|(simp only[ln];omega)) [g3, s45, sn_app, strOfNums_size, hcl, hcl2, Nat.add_comm]; rfl)
    refine .ret ?_
    exact hK _ _ _ _ trivial ((Fin.m).cast (by rw [hT]))
   ·try simp only[dc]at h54
    have hT : decB n = c := by rw [decB_pos h54, hZ, hc]
    refine .skip ?_
    refine hK20 _ ?_
    refine .q ?_ (by simp (disch := first|omega|(simp only[ln];omega)) [g3]; rfl)
    refine .ret ?_
    exact hK _ _ _ _ trivial ((Fin.m).cast (by rw [hT]))
end

end Go.Proofs.Ytdcajfgeleopiaa

/- Walks: ratios and points as texts, by the statements' program. -/
namespace Go.Proofs.Ytdcajfgeleopiaa
open Go Go.RowKit
set_option linter.unusedSimpArgs false
set_option linter.unusedVariables false
set_option maxRecDepth 100000
attribute [local simp] szT2 byT2 agT2 unT2 zoT2 szT4 byT4 agT4 unT4 zoT4 szT9 byT9 agT9 stT9 zoT9 szT26 byT26 agT26 flT26 fdT26_0 fdT26_1 fdT26_2 fdT26_3 zoT26 szT28 byT28 agT28 flT28 fdT28_0 fdT28_1 zoT28 szT51 byT51 agT51 flT51 fdT51_0 fdT51_1 fdT51_2 zoT51 szT78 byT78 agT78 elT78 unT78 zoT78 szT80 byT80 agT80 flT80 fdT80_0 fdT80_1 zoT80 szT82 byT82 agT82 flT82 fdT82_0 fdT82_1 zoT82 szT113 byT113 agT113 flT113 fdT113_0 fdT113_1 fdT113_2 zoT113

theorem one_iff {x : W4} (h : x.ok) : x = W4z 1 ↔ x.v = 1 := by
  have hf : fits 1 = true := by decide
  constructor
  · intro e; rw [e]; exact W4z_v hf
  · intro e; rw [← W4z_of h, e]

section
attribute [local simp] Rt.av Rt.cells l2A l2C
set_option maxHeartbeats 2000000 in
theorem ratioTextS_fc (a : Rt) (ha : a.ok) : FC Try.prog 14 [.agg [.int .u64 (a).up.a, .int .u64 (a).up.b, .int .u64 (a).up.c, .int .u64 (a).up.d, .int .u64 (a).down.a, .int .u64 (a).down.b, .int .u64 (a).down.c, .int .u64 (a).down.d]] (.str (strOfNums (rtT a))) := by
 have lu := decB_le ha.1
 have ld := decB_le ha.2
 have lu1 : (decB a.up.v).length ≤ 9223372036854775806 := by omega
 have lu2 : (decB a.up.v).length + 1 + (decB a.down.v).length ≤ 9223372036854775807 := by omega
 have lu3 : (decB a.up.v).length + (1 + (decB a.down.v).length) ≤ 9223372036854775807 := by omega
 have tu := l1Text_fc (W4.bg ha.1) (by omega)
 have td := l1Text_fc (W4.bg ha.2) (by omega)
 have cm := l1Cmp_fc (W4.bg ha.2) (Bg.i64 (by omega) (by omega) : Bg 1 (1 : Int)) (by omega) (by omega)
 obtain ⟨w, hw⟩ : ∃ w : Int, (if a.down.v < 1 then -1 else if a.down.v > 1 then 1 else 0) = w := ⟨_, rfl⟩
 rw [hw] at cm
 have hw0 : w = 0 ↔ a.down = W4z 1 := by
   rw [one_iff ha.2]; subst hw
   split
   · omega
   · split <;> omega
 refine .b Try.func14 25 (fun nx K hK => ?_)
 refine .q ?_
 refine .sq fun K2 hK2 => ?_
 refine .sq fun K3 hK3 => ?_
 refine .region ?_
 refine .kf 1 (ratioOkS_fc a ha) hb53 ?_
 refine .e ?_
 refine hK3 _ ?_
 refine .c (t := !a.good) (fun h6 => ?_) (fun h6 => ?_)
 ·try simp only[dc]at h6
  have hT : rtT a = [] := by unfold rtT; rw [if_neg (by simpa using h6)]
  refine .q ?_
  refine .ret ?_
  exact hK _ _ _ _ trivial ((Fin.m).cast (by rw [hT]; rfl))
 ·try simp only[dc]at h6
  have hg : a.good = true := by simpa using h6
  refine .skip ?_
  refine hK2 _ ?_
  refine .sq fun K5 hK5 => ?_
  refine .region ?_
  refine .kf 1 (l2Of_fc a ha) hb54 ?_
  refine .e ?_
  refine hK5 _ ?_
  refine .sq fun K6 hK6 => ?_
  refine .sq fun K7 hK7 => ?_
  refine .d 5 ?_
  refine .k 2 (fun fs8 hfs8 => ?_) (by simp (disch := first|omega|(simp only[ln];omega)) [runDf.eq_def, runF1, runF2, stepF.eq_def, updo.eq_def, hupo.eq_def, opSto1.eq_def, List.take_succ_cons, List.take_zero, numS_fold]; rfl)
  refine .f (l1Int_fc 1 (by omega) (by omega)) hb56 ?_ (ha := by simp (disch := first|omega|(simp only[ln];omega)) [idf_Wd', numS_fold])
  refine .f cm hb55 ?_ (ha := by simp (disch := first|omega|(simp only[ln];omega)) [idf_Wd', numS_fold])
  refine .k 1 (fun fs9 hfs9 => ?_) (by simp (disch := first|omega|(simp only[ln];omega)) [runDf.eq_def, runF1, runF2, stepF.eq_def, updo.eq_def, hupo.eq_def, opSto1.eq_def, List.take_succ_cons, List.take_zero, numS_fold]; rfl)
  refine .r 5 (by simp only[ln, hfs8, hfs9];omega) ?_ (by simp (disch := first|omega|(simp only[ln];omega)) [runDf.eq_def, runF1, runF2, stepF.eq_def, updo.eq_def, hupo.eq_def, opSto1.eq_def, numS_fold]; rfl)
  refine hK7 _ ?_
  refine .c (t := w == 0) (fun h13 => ?_) (fun h13 => ?_)
  ·try simp only[dc]at h13
   have hd := hw0.1 (by simpa using h13)
   have hT : rtT a = decB a.up.v := by unfold rtT; rw [if_pos hg, if_pos hd]
   refine .sq fun K10 hK10 => ?_
   refine .region ?_
   refine .kf 2 tu hb57 ?_ (by simp (disch := first|omega|(simp only[ln];omega)) [List.take_succ_cons, List.take_zero, numS_fold]; rfl) (ha := by simp (disch := first|omega|(simp only[ln];omega)) [idf_Wd', numS_fold])
   refine .e ?_ (by simp (disch := first|omega|(simp only[ln];omega)) [numS_fold]; rfl)
   refine hK10 _ ?_
   refine .ret ?_
   exact hK _ _ _ _ trivial ((Fin.m).cast (by rw [hT]))
  ·try simp only[dc]at h13
   have hd : ¬ a.down = W4z 1 := fun h => by rw [hw0.2 h] at h13; simp at h13
   have hT : rtT a = decB a.up.v ++ 47 :: decB a.down.v := by unfold rtT; rw [if_pos hg, if_neg hd]
   refine .skip ?_
   refine hK6 _ ?_
   refine .sq fun K11 hK11 => ?_
   refine .d 8 ?_
   refine .k 2 (fun fs12 hfs12 => ?_) (by simp (disch := first|omega|(simp only[ln];omega)) [runDf.eq_def, runF1, runF2, stepF.eq_def, updo.eq_def, hupo.eq_def, opSto1.eq_def, List.take_succ_cons, List.take_zero, s47, s44, s0, sn_app, strOfNums_size, List.length_append, lu1, lu2, lu3, numS_fold]; rfl)
   refine .f tu hb57 ?_ (ha := by simp (disch := first|omega|(simp only[ln];omega)) [idf_Wd', s47, s44, s0, sn_app, strOfNums_size, List.length_append, lu1, lu2, lu3, numS_fold])
   refine .k 3 (fun fs13 hfs13 => ?_) (by simp (disch := first|omega|(simp only[ln];omega)) [runDf.eq_def, runF1, runF2, stepF.eq_def, updo.eq_def, hupo.eq_def, opSto1.eq_def, List.take_succ_cons, List.take_zero, s47, s44, s0, sn_app, strOfNums_size, List.length_append, lu1, lu2, lu3, numS_fold]; rfl)
   refine .f td hb57 ?_ (ha := by simp (disch := first|omega|(simp only[ln];omega)) [idf_Wd', s47, s44, s0, sn_app, strOfNums_size, List.length_append, lu1, lu2, lu3, numS_fold])
   refine .k 1 (fun fs14 hfs14 => ?_) (by simp (disch := first|omega|(simp only[ln];omega)) [runDf.eq_def, runF1, runF2, stepF.eq_def, updo.eq_def, hupo.eq_def, opSto1.eq_def, List.take_succ_cons, List.take_zero, s47, s44, s0, sn_app, strOfNums_size, List.length_append, lu1, lu2, lu3, numS_fold]; rfl)
   refine .r 8 (by simp only[ln, hfs12, hfs13, hfs14];omega) ?_ (by simp (disch := first|omega|(simp only[ln];omega)) [runDf.eq_def, runF1, runF2, stepF.eq_def, updo.eq_def, hupo.eq_def, opSto1.eq_def, s47, s44, s0, sn_app, strOfNums_size, List.length_append, lu1, lu2, lu3, numS_fold]; rfl)
   refine hK11 _ ?_
   refine .ret ?_
   exact hK _ _ _ _ trivial ((Fin.m).cast (by rw [hT]))
end
section
attribute [local simp] Pt.av Pt.cells l3A l3C
end

end Go.Proofs.Ytdcajfgeleopiaa

/- Walks: drawn texts. -/
namespace Go.Proofs.Ytdcajfgeleopiaa
open Go Go.RowKit
set_option linter.unusedSimpArgs false
set_option linter.unusedVariables false
set_option maxRecDepth 100000
attribute [local simp] szT3 byT3 agT3 unT3 zoT3 szT9 byT9 agT9 stT9 zoT9 szT26 byT26 agT26 flT26 fdT26_0 fdT26_1 fdT26_2 fdT26_3 zoT26 szT28 byT28 agT28 flT28 fdT28_0 fdT28_1 zoT28 szT51 byT51 agT51 flT51 fdT51_0 fdT51_1 fdT51_2 zoT51 szT98 byT98 agT98 elT98 unT98 zoT98

def sR (l : List Int) : List AV := [.str (strOfNums l)]
def gLs (T : List (List Int)) (k : Nat) : List Int := T.getD k []
theorem sR_at {T : List (List Int)} {k : Nat} (h : k < T.length) : (T.map sR)[k]? = some [.str (strOfNums (gLs T k))] := by
  rw [List.getElem?_map, List.getElem?_eq_getElem h]
  unfold gLs; rw [List.getD_eq_getElem?_getD, List.getElem?_eq_getElem h]; rfl
theorem gLs_ok {T : List (List Int)} (h : ∀ l ∈ T, (∀ c ∈ l, (0 : Int) ≤ c ∧ c < 256) ∧ l.length ≤ 8) (k : Nat) : Byt (gLs T k) ∧ (gLs T k).length ≤ 8 := by
  unfold gLs; rw [List.getD_eq_getElem?_getD]
  cases hk : T[k]? with
  | none => exact ⟨fun c hc => by simp at hc, by simp⟩
  | some l => exact h l (List.mem_of_getElem? hk)
theorem rtT_len {a : Rt} (h : a.ok) : (rtT a).length ≤ 201 := by
  have h1 := decB_le h.1
  have h2 := decB_le h.2
  unfold rtT; split
  · split
    · omega
    · simp; omega
  · simp
def tx1 : List (List Int) := [[47], [47, 50], [47, 45, 51], [47, 48], [48]]
theorem tx1_ok : ∀ l ∈ tx1, (∀ c ∈ l, (0 : Int) ≤ c ∧ c < 256) ∧ l.length ≤ 8 := by decide
def tx2 : List (List Int) := [[50, 47, 52], [45, 49, 47, 50], [49, 47, 45, 50], [], [47], [48, 47, 51], [51, 47, 48], [49, 47, 50, 47, 51]]
theorem tx2_ok : ∀ l ∈ tx2, (∀ c ∈ l, (0 : Int) ≤ c ∧ c < 256) ∧ l.length ≤ 8 := by decide
set_option maxHeartbeats 4000000 in
theorem drawRatioText_ac (l : List Int) (H0 : Heap) (nx : Nat) (dl : Dig 256 l) (hl : l.length ≤ 1048576) (hd : ∀ i q, H0 i = some q → i < nx) : ACall Try.prog 11 [Wd .u8 l] H0 nx (fun r H' nx' => (∃ a : Rt, a.ok ∧ r = .agg [.int .u64 (a).up.a, .int .u64 (a).up.b, .int .u64 (a).up.c, .int .u64 (a).up.d, .int .u64 (a).down.a, .int .u64 (a).down.b, .int .u64 (a).down.c, .int .u64 (a).down.d]) ∧ H' = H0 ∧ nx ≤ nx') := by
 refine .b Try.func11 8 fun K hK => ?_
 refine .q ?_
 refine .sq fun K2 hK2 => ?_
 refine .region ?_
 refine .k 1 ?_
 refine AOPS.old fun hold1 => ?_
 refine .a (open_ac l _ _) hb47 ?_
 rintro _ _ nx1 ⟨rfl, rfl, rfl⟩
 clear hold1
 obtain ⟨id, hid⟩ : ∃ id, id = nx + 1 := ⟨_, rfl⟩
 obtain ⟨p, hH⟩ : ∃ p : Nat, p = 0 := ⟨_, rfl⟩
 have hp : p ≤ l.length := by omega
 simp only []
 rw [← hid]
 refine .e ?_
 refine hK2 _ ?_
 refine .sq fun K3 hK3 => ?_
 refine .region ?_
 refine .k 1 ?_
 refine AOPS.old fun hold1 => ?_
 refine .a (ratio_ac l p id _ _ dl hl hp (by simp (disch := omega) [hH]) hold1) hb48 ?_
 rintro _ _ nx2 ⟨⟨x, rfl, xo⟩, ⟨p2, hp2, rfl⟩, hnx2⟩
 try simp only [] at hnx2
 clear hold1
 refine .e ?_
 refine hK3 _ ?_
 refine .ret ?_
 exact hK _ _ _ _ _ trivial ((Fin.mk (r := .agg [.int .u64 (x).up.a, .int .u64 (x).up.b, .int .u64 (x).up.c, .int .u64 (x).up.d, .int .u64 (x).down.a, .int .u64 (x).down.b, .int .u64 (x).down.c, .int .u64 (x).down.d]) (by simp (disch := omega) [aRes, aResL, aRes1]; try rfl)).restr (fun i => decide (i < nx))) (⟨⟨x, xo, rfl⟩, by simp (disch := first | omega | (simp; done) | (simp; omega)) [hrestr_in, hrestr_out, hrestr_all hd, hupd_same], by first | omega | (simp at *; omega)⟩)
set_option maxHeartbeats 4000000 in
theorem drawReadRatio_ac (l : List Int) (H0 : Heap) (nx : Nat) (dl : Dig 256 l) (hl : l.length ≤ 1048576) (hd : ∀ i q, H0 i = some q → i < nx) : ACall Try.prog 16 [Wd .u8 l] H0 nx (fun r H' nx' => (∃ L : List Int, Byt L ∧ L.length ≤ 400 ∧ r = .str (strOfNums L)) ∧ H' = H0 ∧ nx ≤ nx') := by
 refine .b Try.func16 33 fun K hK => ?_
 refine .q ?_
 refine .sq fun K2 hK2 => ?_
 refine .region ?_
 refine .k 1 ?_
 refine AOPS.old fun hold1 => ?_
 refine .a (open_ac l _ _) hb47 ?_
 rintro _ _ nx1 ⟨rfl, rfl, rfl⟩
 clear hold1
 obtain ⟨id, hid⟩ : ∃ id, id = nx := ⟨_, rfl⟩
 obtain ⟨p, hH⟩ : ∃ p : Nat, p = 0 := ⟨_, rfl⟩
 have hp : p ≤ l.length := by omega
 simp only []
 rw [← hid]
 refine .e ?_
 refine hK2 _ ?_
 refine .sq fun K3 hK3 => ?_
 refine .region ?_
 refine .k 1 ?_
 refine AOPS.old fun hold1 => ?_
 refine .a (ratio_ac l p id _ _ dl hl hp (by simp (disch := omega) [hH]) hold1) hb48 ?_
 rintro _ _ nx2 ⟨⟨x, rfl, xo⟩, ⟨p2, hp2, rfl⟩, hnx2⟩
 try simp only [] at hnx2
 clear hold1
 have tl := rtT_len xo
 have tb := rtT_byt x
 have tt := ratioTextS_fc x xo
 generalize rtT x = X at *
 have lx : X.length ≤ 9223372036854775805 := by omega
 have hTc : ∀ T K, (∀ l ∈ T, (∀ c ∈ l, (0 : Int) ≤ c ∧ c < 256) ∧ l.length ≤ 8) → X.length + (gLs T K).length ≤ 9223372036854775807 := fun T K h => by have := (gLs_ok h K).2; omega
 refine .f tt hb14 ?_
 refine .e ?_
 refine hK3 _ ?_
 refine .sq fun K4 hK4 => ?_
 refine .sq fun K5 hK5 => ?_
 refine .region ?_
 refine .k 1 ?_
 refine AOPS.old fun hold1 => ?_
 refine .a (below_ac 8 (by omega) (by omega) l p2 id _ _ dl hl hp2 (by simp (disch := omega) [hH]) hold1) hb63 ?_
 rintro _ _ nx3 ⟨⟨k8, rfl, k80, k81⟩, ⟨p3, hp3, rfl⟩, hnx3⟩
 try simp only [] at hnx3
 clear hold1
 refine .nil ?_
 refine hK5 _ ?_
 refine .block ?_
 refine .q ?_
 refine .c (t := k8 == 0) (fun h12 => ?_) (fun h12 => ?_)
 ·try simp only[dc]at h12
  have s4749 : ({ data := #[47, 49] } : ByteArray) = strOfNums [47, 49] := rfl
  refine .q ?_ (by simp (disch := first|omega|(simp only[ln];omega)) [s47, s0, sn_app, strOfNums_size, List.length_append, List.length_cons, List.length_nil, s4749, lx]; rfl)
  refine .ret ?_
  exact hK _ _ _ _ _ trivial ((Fin.mk (r := .str (strOfNums (X ++ [47, 49]))) (by simp (disch := omega) [aRes, aResL, aRes1]; try rfl)).restr (fun i => decide (i < nx))) (⟨⟨X ++ [47, 49], tb.app (fun c hc => by simp at hc; omega), by simp; omega, rfl⟩, by simp (disch := first | omega | (simp; done) | (simp; omega)) [hrestr_in, hrestr_out, hrestr_all hd, hupd_same], by first | omega | (simp at *; omega)⟩)
 ·try simp only[dc]at h12
  refine .q ?_
  refine .c (t := k8 == 1) (fun h16 => ?_) (fun h16 => ?_)
  ·try simp only[dc]at h16
   refine .sq fun K9 hK9 => ?_
   obtain ⟨T, hT0⟩ : ∃ T, tx1.map sR = T := ⟨_, rfl⟩
   have hTl : T.length = 5 := by rw [← hT0]; rfl
   have hTa : ∀ K, K < 5 → T[K]? = some [.str (strOfNums (gLs tx1 K))] := fun K h => by rw [← hT0]; exact sR_at h
   have hTb : ∀ (K : Nat) (h : K < T.length), T[K] = [.str (strOfNums (gLs tx1 K))] := fun K h => by
     have := hTa K (by omega)
     rw [List.getElem?_eq_getElem h] at this; exact Option.some.inj this
   refine .region ?_
   refine .k 3 ?_ (by simp (disch := first|omega|(simp only[ln];omega)) [List.take_succ_cons, List.take_zero, if_pos, s47, s0, sn_app, strOfNums_size, List.length_append, List.length_cons, List.length_nil, hTl, hTb, hTc _ _ tx1_ok]; rfl)
   refine AOPS.frz1 19 nx3 1 T (.isl T) (by simp; rw [← hT0]; rfl) (by simp [← hT0, tx1, sR]) ?_
   refine AOPS.old fun hold3 => ?_
   refine .a (below_ac 5 (by omega) (by omega) l p3 id _ _ dl hl hp3 (by simp (disch := omega) [hH]) hold3) hb63 ?_ (ha := by simp (disch := first|omega|(simp only[ln];omega)) [idf_Wd', if_pos, s47, s0, sn_app, strOfNums_size, List.length_append, List.length_cons, List.length_nil, hTl, hTb, hTc _ _ tx1_ok])
   rintro _ _ nx4 ⟨⟨kk, rfl, kk0, kk1⟩, ⟨p4, hp4, rfl⟩, hnx4⟩
   try simp only [] at hnx4
   clear hold3
   obtain ⟨K, rfl⟩ := Int.eq_ofNat_of_zero_le kk0
   have hKn : K < 5 := by omega
   obtain ⟨gb, gl⟩ := gLs_ok tx1_ok K
   refine .e ?_ (by simp (disch := first|omega|(simp only[ln];omega)) [if_pos, s47, s0, sn_app, strOfNums_size, List.length_append, List.length_cons, List.length_nil, hTl, hTb, hTc _ _ tx1_ok]; rfl)
   refine hK9 _ ?_
   refine .ret ?_
   exact hK _ _ _ _ _ trivial ((Fin.mk (r := .str (strOfNums (X ++ gLs tx1 K))) (by simp (disch := omega) [aRes, aResL, aRes1]; try rfl)).restr (fun i => decide (i < nx))) (⟨⟨X ++ gLs tx1 K, tb.app gb, by simp; omega, rfl⟩, by simp (disch := first | omega | (simp; done) | (simp; omega)) [hrestr_in, hrestr_out, hrestr_all hd, hupd_same], by first | omega | (simp at *; omega)⟩)
  ·try simp only[dc]at h16
   refine .q ?_
   refine .c (t := k8 == 2) (fun h25 => ?_) (fun h25 => ?_)
   ·try simp only[dc]at h25
    refine .sq fun K11 hK11 => ?_
    obtain ⟨T, hT0⟩ : ∃ T, tx2.map sR = T := ⟨_, rfl⟩
    have hTl : T.length = 8 := by rw [← hT0]; rfl
    have hTa : ∀ K, K < 8 → T[K]? = some [.str (strOfNums (gLs tx2 K))] := fun K h => by rw [← hT0]; exact sR_at h
    have hTb : ∀ (K : Nat) (h : K < T.length), T[K] = [.str (strOfNums (gLs tx2 K))] := fun K h => by
      have := hTa K (by omega)
      rw [List.getElem?_eq_getElem h] at this; exact Option.some.inj this
    refine .region ?_
    refine .k 2 ?_ (by simp (disch := first|omega|(simp only[ln];omega)) [List.take_succ_cons, List.take_zero, if_pos, s47, s0, sn_app, strOfNums_size, List.length_append, List.length_cons, List.length_nil, hTl, hTb]; rfl)
    refine AOPS.frz1 27 nx3 1 T (.isl T) (by simp; rw [← hT0]; rfl) (by simp [← hT0, tx2, sR]) ?_
    refine AOPS.old fun hold2 => ?_
    refine .a (below_ac 8 (by omega) (by omega) l p3 id _ _ dl hl hp3 (by simp (disch := omega) [hH]) hold2) hb63 ?_ (ha := by simp (disch := first|omega|(simp only[ln];omega)) [idf_Wd', if_pos, s47, s0, sn_app, strOfNums_size, List.length_append, List.length_cons, List.length_nil, hTl, hTb])
    rintro _ _ nx4 ⟨⟨kk, rfl, kk0, kk1⟩, ⟨p4, hp4, rfl⟩, hnx4⟩
    try simp only [] at hnx4
    clear hold2
    obtain ⟨K, rfl⟩ := Int.eq_ofNat_of_zero_le kk0
    have hKn : K < 8 := by omega
    obtain ⟨gb, gl⟩ := gLs_ok tx2_ok K
    refine .e ?_ (by simp (disch := first|omega|(simp only[ln];omega)) [if_pos, s47, s0, sn_app, strOfNums_size, List.length_append, List.length_cons, List.length_nil, hTl, hTb]; rfl)
    refine hK11 _ ?_
    refine .ret ?_
    exact hK _ _ _ _ _ trivial ((Fin.mk (r := .str (strOfNums (gLs tx2 K))) (by simp (disch := omega) [aRes, aResL, aRes1]; try rfl)).restr (fun i => decide (i < nx))) (⟨⟨gLs tx2 K, gb, by omega, rfl⟩, by simp (disch := first | omega | (simp; done) | (simp; omega)) [hrestr_in, hrestr_out, hrestr_all hd, hupd_same], by first | omega | (simp at *; omega)⟩)
   ·try simp only[dc]at h25
    refine .skip ?_
    refine hK4 _ ?_
    refine .q ?_
    refine .ret ?_
    exact hK _ _ _ _ _ trivial ((Fin.mk (r := .str (strOfNums (X))) (by simp (disch := omega) [aRes, aResL, aRes1]; try rfl)).restr (fun i => decide (i < nx))) (⟨⟨X, tb, by omega, rfl⟩, by simp (disch := first | omega | (simp; done) | (simp; omega)) [hrestr_in, hrestr_out, hrestr_all hd, hupd_same], by first | omega | (simp at *; omega)⟩)
end Go.Proofs.Ytdcajfgeleopiaa

/- Walks: FnRatioTexts, FnPointTexts, walked. -/
namespace Go.Proofs.Ytdcajfgeleopiaa
open Go Go.RowKit
set_option linter.unusedSimpArgs false
set_option linter.unusedVariables false
set_option maxRecDepth 100000
attribute [local simp] szT4 byT4 agT4 unT4 zoT4 szT9 byT9 agT9 stT9 zoT9 szT26 byT26 agT26 flT26 fdT26_0 fdT26_1 fdT26_2 fdT26_3 zoT26 szT28 byT28 agT28 flT28 fdT28_0 fdT28_1 zoT28 szT51 byT51 agT51 flT51 fdT51_0 fdT51_1 fdT51_2 zoT51

theorem rrV_ok (L : List Int) : (rrV L).ok := by
  unfold rrV; split
  · exact rrC_ok L
  · exact ⟨by unfold W4.ok U64; simp, by unfold W4.ok U64; simp⟩
section
attribute [local simp] Rt.av Rt.cells Pt.av Pt.cells
set_option maxHeartbeats 8000000 in
theorem fnRatioTexts_fc (l : List Int) (dl : Dig 256 l) : FC Try.prog 3 [Wd .u8 l] (.bool true) := by
 refine .b Try.func3 54 (fun nx K hK => ?_)
 refine .q ?_
 refine .sq fun K2 hK2 => ?_
 refine .sq fun K3 hK3 => ?_
 refine .region ?_
 refine .kf 1 (big_fc l) hb10 ?_
 refine .nil ?_
 refine hK3 _ ?_
 refine .c (t := decide (1048576 < (l.length : Int))) (fun h11 => ?_) (fun h11 => ?_)
 ·try simp only[dc]at h11
  refine .q ?_
  refine .ret ?_
  exact hK _ _ _ _ trivial (Fin.m)
 ·try simp only[dc]at h11
  have hl : l.length ≤ 1048576 := by omega
  refine .skip ?_
  refine hK2 _ ?_
  refine .sq fun K5 hK5 => ?_
  refine .region ?_
  refine .k 1 ?_
  refine AOPS.old fun hold1 => ?_
  refine .a (drawRatioText_ac l _ _ dl hl hold1) hb11 ?_
  rintro _ _ nx1 ⟨⟨a, ao, rfl⟩, rfl, hnx1⟩
  clear hold1
  have cI := ratioText_fc a ao
  have cS := ratioTextS_fc a ao
  have cO := ratioOkI_fc a ao
  have cR := readRatio_fc (rtT a) (rtT_byt a) (by have := rtT_len ao; omega)
  refine .e ?_
  refine hK5 _ ?_
  refine .sq fun K6 hK6 => ?_
  refine .region ?_
  refine .kf 1 cI hb12 ?_
  refine .e ?_
  refine hK6 _ ?_
  refine .sq fun K7 hK7 => ?_
  refine .region ?_
  refine .kf 1 cR hb13 ?_
  refine .e ?_
  refine hK7 _ ?_
  refine .sq fun K8 hK8 => ?_
  refine .sq fun K9 hK9 => ?_
  cases hg : a.good
  ·have hbad := rt_bad hg
   have ht : decide (rtT a = rtT a) = true := decide_eq_true rfl
   refine .region ?_
   refine .kf 2 cS hb14 ?_ (by simp (disch := first|omega|(simp only[ln];omega)) [List.take_succ_cons, List.take_zero, hg, hbad, sn_beq (rtT_byt a) (rtT_byt a), ht]; rfl) (ha := by simp (disch := first|omega|(simp only[ln];omega)) [idf_Wd', hg, hbad, sn_beq (rtT_byt a) (rtT_byt a), ht])
   refine .kf 4 cO hb15 ?_ (by simp (disch := first|omega|(simp only[ln];omega)) [List.take_succ_cons, List.take_zero, hg, hbad, sn_beq (rtT_byt a) (rtT_byt a), ht]; rfl) (ha := by simp (disch := first|omega|(simp only[ln];omega)) [idf_Wd', hg, hbad, sn_beq (rtT_byt a) (rtT_byt a), ht])
   refine .e ?_ (by simp (disch := first|omega|(simp only[ln];omega)) [hg, hbad, sn_beq (rtT_byt a) (rtT_byt a), ht]; rfl)
   refine hK9 _ ?_
   refine .c (t := false) (fun h38 => ?_) (fun h38 => ?_)
   ·simp at h38
   ·try simp only[dc]at h38
    refine .skip ?_
    refine hK8 _ ?_
    refine .sq fun K10 hK10 => ?_
    refine .region ?_
    refine .k 1 ?_
    refine AOPS.old fun hold1 => ?_
    refine .a (drawReadRatio_ac l _ _ dl hl hold1) hb16 ?_
    rintro _ _ nx2 ⟨⟨L, Lb, Ll, rfl⟩, rfl, hnx2⟩
    clear hold1
    have cR2 := readRatio_fc L Lb (by omega)
    refine .e ?_
    refine hK10 _ ?_
    refine .sq fun K11 hK11 => ?_
    refine .region ?_
    refine .kf 1 cR2 hb13 ?_
    refine .e ?_
    refine hK11 _ ?_
    refine .sq fun K12 hK12 => ?_
    cases hB : rrB L
    ·refine .r ?_ (by simp (disch := first|omega|(simp only[ln];omega)) [hB]; rfl)
     refine hK12 _ ?_
     refine .ret ?_
     exact hK _ _ _ _ trivial ((Fin.m))
    ·have hX := rr_text hB
     have cT := ratioText_fc (rrV L) (rrV_ok L)
     rw [hX] at cT
     have hq : decide (L = L) = true := decide_eq_true rfl
     refine .region ?_
     refine .kf 4 cT hb12 ?_ (by simp (disch := first|omega|(simp only[ln];omega)) [List.take_succ_cons, List.take_zero, hB, sn_beq Lb Lb, hq]; rfl) (ha := by simp (disch := first|omega|(simp only[ln];omega)) [idf_Wd', hB, sn_beq Lb Lb, hq])
     refine .e ?_ (by simp (disch := first|omega|(simp only[ln];omega)) [hB, sn_beq Lb Lb, hq]; rfl)
     refine hK12 _ ?_
     refine .ret ?_
     exact hK _ _ _ _ trivial ((Fin.m))
  ·obtain ⟨hv1, hv2⟩ := rt_read ao hg
   have ht : decide (rtT a = rtT a) = true := decide_eq_true rfl
   have hr : decide (a = a) = true := decide_eq_true rfl
   refine .region ?_
   refine .kf 2 cS hb14 ?_ (by simp (disch := first|omega|(simp only[ln];omega)) [List.take_succ_cons, List.take_zero, hg, hv1, hv2, sn_beq (rtT_byt a) (rtT_byt a), ht, eqRt]; rfl) (ha := by simp (disch := first|omega|(simp only[ln];omega)) [idf_Wd', hg, hv1, hv2, sn_beq (rtT_byt a) (rtT_byt a), ht, eqRt])
   refine .kf 4 cO hb15 ?_ (by simp (disch := first|omega|(simp only[ln];omega)) [List.take_succ_cons, List.take_zero, hg, hv1, hv2, sn_beq (rtT_byt a) (rtT_byt a), ht, eqRt]; rfl) (ha := by simp (disch := first|omega|(simp only[ln];omega)) [idf_Wd', hg, hv1, hv2, sn_beq (rtT_byt a) (rtT_byt a), ht, eqRt])
   refine .e ?_ (by simp (disch := first|omega|(simp only[ln];omega)) [hg, hv1, hv2, sn_beq (rtT_byt a) (rtT_byt a), ht, eqRt]; rfl)
   refine hK9 _ ?_
   refine .c (t := false) (fun h38 => ?_) (fun h38 => ?_)
   ·simp at h38
   ·try simp only[dc]at h38
    refine .skip ?_
    refine hK8 _ ?_
    refine .sq fun K13 hK13 => ?_
    refine .region ?_
    refine .k 1 ?_
    refine AOPS.old fun hold1 => ?_
    refine .a (drawReadRatio_ac l _ _ dl hl hold1) hb16 ?_
    rintro _ _ nx2 ⟨⟨L, Lb, Ll, rfl⟩, rfl, hnx2⟩
    clear hold1
    have cR2 := readRatio_fc L Lb (by omega)
    refine .e ?_
    refine hK13 _ ?_
    refine .sq fun K14 hK14 => ?_
    refine .region ?_
    refine .kf 1 cR2 hb13 ?_
    refine .e ?_
    refine hK14 _ ?_
    refine .sq fun K15 hK15 => ?_
    cases hB : rrB L
    ·refine .r ?_ (by simp (disch := first|omega|(simp only[ln];omega)) [hB]; rfl)
     refine hK15 _ ?_
     refine .ret ?_
     exact hK _ _ _ _ trivial ((Fin.m))
    ·have hX := rr_text hB
     have cT := ratioText_fc (rrV L) (rrV_ok L)
     rw [hX] at cT
     have hq : decide (L = L) = true := decide_eq_true rfl
     refine .region ?_
     refine .kf 4 cT hb12 ?_ (by simp (disch := first|omega|(simp only[ln];omega)) [List.take_succ_cons, List.take_zero, hB, sn_beq Lb Lb, hq]; rfl) (ha := by simp (disch := first|omega|(simp only[ln];omega)) [idf_Wd', hB, sn_beq Lb Lb, hq])
     refine .e ?_ (by simp (disch := first|omega|(simp only[ln];omega)) [hB, sn_beq Lb Lb, hq]; rfl)
     refine hK15 _ ?_
     refine .ret ?_
     exact hK _ _ _ _ trivial ((Fin.m))
end

end Go.Proofs.Ytdcajfgeleopiaa
