/- Walks: FnExactOverlaid, walked: the law. -/
import Derived.Test.YtgeecahbahgjbaaGreatG13

namespace Go.Proofs.YtgeecahbahgjbaaGreat
open Go Go.RowKit
set_option linter.unusedSimpArgs false
set_option linter.unusedVariables false
set_option maxRecDepth 100000
attribute [local simp] szT3 byT3 agT3 unT3 zoT3 szT4 byT4 agT4 unT4 zoT4
theorem eqSegS_nil2n : FC Tryz.prog 34 [.nsl, .nsl] (.bool true) := (eqSegS_fc [] (by simp)).args fun w β b vs h => by
  obtain ⟨v, r, e, h1, ⟨v2, r2, e2, h2, h3⟩⟩ := h
  exact ⟨v, r, e, nsl4 h1, v2, r2, e2, nsl4 h2, h3⟩

section
attribute [local simp] Sp.av Sp.cells Sg.av Sg.cells
set_option maxHeartbeats 8000000 in
theorem fnExactOverlaid_yes (A B : List (List Sp)) (hA : A.length ≤ 9223372036854775807) (hA2 : ∀ r ∈ A, r.length ≤ 9223372036854775807) (hB : B.length ≤ 9223372036854775807) (hB2 : ∀ r ∈ B, r.length ≤ 9223372036854775807) (zA : (lyF A).1 = 0) (zB : (lyF B).1 = 0) : FC Tryz.prog 6 [.isl (A.map rgC), .isl (B.map rgC)] (.bool true) := by
 have szA := szRingS_fc A hA hA2
 rw [rgs] at szA
 refine .b Tryz.func6 119 (fun nx K hK => ?_) (hi := by simp [idfL, idf, idfLL_iff, rgC, Sp.cells])
 refine .q ?_
 refine .q ?_
 refine .sq fun K3 hK3 => ?_
 refine .region ?_
 refine .kf 2 szA hb30 ?_
 refine .e ?_
 refine hK3 _ ?_
 refine .sq fun K4 hK4 => ?_
 refine .q ?_
 refine .c (t := decide (srA A 1048576 < 0)) (fun h21 => ?_) (fun h21 => ?_)
 ·try simp only[dc]at h21
  refine .q ?_
  refine .ret ?_
  exact hK _ _ _ _ trivial ((Fin.m))
 ·try simp only[dc]at h21
  have n1l := srA_le (L := A) (n := 1048576) (by omega)
  obtain ⟨n1, hn1⟩ : ∃ n1, n1 = srA A 1048576 := ⟨_, rfl⟩
  rw [← hn1] at n1l h21 ⊢
  have szB := szRingS_fcN B hB hB2 n1 (by omega) (by omega)
  rw [rgs] at szB
  refine .skip ?_
  refine hK4 _ ?_
  refine .sq fun K7 hK7 => ?_
  refine .region ?_
  refine .kf 2 szB hb30 ?_
  refine .e ?_
  refine hK7 _ ?_
  refine .sq fun K8 hK8 => ?_
  refine .q ?_
  refine .c (t := decide (srA B n1 < 0)) (fun h26 => ?_) (fun h26 => ?_)
  ·try simp only[dc]at h26
   refine .q ?_
   refine .ret ?_
   exact hK _ _ _ _ trivial ((Fin.m))
  ·try simp only[dc]at h26
   obtain ⟨kA0, kA2, kAn⟩ := srA_b (L := A) (n := 1048576) (by omega)
   obtain ⟨kB0, kB2, kBn⟩ := srA_b (L := B) (n := n1) (by omega)
   have kA1 : A.length ≤ 1048576 := by omega
   have kA3 : ∀ r ∈ A, r.length ≤ 1048576 := fun r hr => by have := kA2 r hr; omega
   have qA1 : A.length ≤ 1099511627776 := by omega
   have qA2 : ∀ r ∈ A, r.length ≤ 1099511627776 := fun r hr => by have := kA3 r hr; omega
   have tA := toRingS_fc A kA1 kA3
   rw [rgs] at tA
   have eA := eqRingS_fc A hA hA2
   rw [rgs] at eA
   have kyA : lyN A ≤ 1048576 := by omega
   obtain ⟨nA, hnA⟩ : ∃ n, A.length = n := ⟨_, rfl⟩
   have kB1 : B.length ≤ 1048576 := by omega
   have kB3 : ∀ r ∈ B, r.length ≤ 1048576 := fun r hr => by have := kB2 r hr; omega
   have qB1 : B.length ≤ 1099511627776 := by omega
   have qB2 : ∀ r ∈ B, r.length ≤ 1099511627776 := fun r hr => by have := kB3 r hr; omega
   have tB := toRingS_fc B kB1 kB3
   rw [rgs] at tB
   have eB := eqRingS_fc B hB hB2
   rw [rgs] at eB
   have kyB : lyN B ≤ 1048576 := by omega
   obtain ⟨nB, hnB⟩ : ∃ n, B.length = n := ⟨_, rfl⟩
   have hSl := ovG_len A B
   obtain ⟨S, hS⟩ : ∃ S, S = ovG A B := ⟨_, rfl⟩
   obtain ⟨m, hm⟩ : ∃ m, lyN A + lyN B = m := ⟨_, rfl⟩
   rw [← hS, hm] at hSl
   have cS := overlaidS_fc A B qA1 qA2 qB1 qB2 zA zB
   rw [← hS] at cS
   have cI := fun nx => overlaidI_own A B qA1 qA2 qB1 qB2 zA zB nx
   rw [← hS, hm] at cI
   have tkT : List.take m (List.map Sg.cells S) = List.map Sg.cells S := List.take_of_length_le (by rw [List.length_map]; omega)
   have neg4 : decide (1 + 4 * (m : Int) < 0) = false := by simp; omega
   refine .skip ?_
   refine hK8 _ ?_
   refine .sq fun K11 hK11 => ?_
   refine .region ?_
   refine .kf 1 tA hb32 ?_
   refine .kf 1 tB hb32 ?_
   refine .f cS hb39 ?_
   refine .e ?_
   refine hK11 _ ?_
   refine .sq fun K12 hK12 => ?_
   have J12 : ∀ s : St, (∃ (xA : Nat) (fA : Nat → Nat), (Nst s.heap nx s.nx xA fA A) ∧ s.env 0 = .isl (A.map rgC) ∧ s.env 1 = .isl (B.map rgC) ∧ s.env 6 = .isl (S.map Sg.cells) ∧ s.env 7 = .bool true ∧ s.env 8 = .osl xA 0 nA ∧ s.nt = 119) → K12 s := by
    rintro ⟨e, H, mm, nt⟩ ⟨xA, fA, hNA, g0, g1, g6, g7, g8, rfl⟩
    simp only [] at g0 g1 g6 g7 g8
    simp only [] at hNA
    refine hK12 _ ?_
    refine .sq fun K13 hK13 => ?_
    have J13 : ∀ s : St, (∃ (h1 xB : Nat) (fB : Nat → Nat), (Nst s.heap nx h1 xA fA A) ∧ (Nst s.heap h1 s.nx xB fB B) ∧ s.env 0 = .isl (A.map rgC) ∧ s.env 1 = .isl (B.map rgC) ∧ s.env 6 = .isl (S.map Sg.cells) ∧ s.env 7 = .bool true ∧ s.env 8 = .osl xA 0 nA ∧ s.env 9 = .osl xB 0 nB ∧ s.nt = 119) → K13 s := by
     rintro ⟨e, H, mm, nt⟩ ⟨h1, xB, fB, hNA, hNB, g0x, g1x, g6x, g7x, g8x, g9x, rfl⟩
     simp only [] at g0x g1x g6x g7x g8x g9x
     simp only [] at hNA hNB
     have hvA : lv H 4 (.osl xA 0 nA) = .isl (A.map rgC) := by have := hNA.lv 2; rw [hnA] at this; exact this
     have hvB : lv H 4 (.osl xB 0 nB) = .isl (B.map rgC) := by have := hNB.lv 2; rw [hnB] at this; exact this
     refine hK13 _ ?_
     refine .sq fun K14 hK14 => ?_
     have J14 : ∀ s : St, (∃ (ig h2 : Nat), (Nst s.heap nx h1 xA fA A) ∧ (Nst s.heap h1 h2 xB fB B) ∧ (h1 ≤ h2) ∧ (h2 ≤ s.nx) ∧ (h2 ≤ ig) ∧ s.env 0 = .isl (A.map rgC) ∧ s.env 1 = .isl (B.map rgC) ∧ s.env 6 = .isl (S.map Sg.cells) ∧ s.env 7 = .bool true ∧ s.env 8 = .osl xA 0 nA ∧ s.env 9 = .osl xB 0 nB ∧ s.env 10 = .osl ig 0 m ∧ s.env 11 = .bool true ∧ s.heap ig = some (4, S.map Sg.cells) ∧ ig < s.nx ∧ s.nt = 119) → K14 s := by
      clear hvA hvB
      rintro ⟨e, H, mm, nt⟩ ⟨ig, h2, hNA, hNB, h12, h2n, hgi, g0y, g1y, g6y, g7y, g8y, g9y, g10y, g11y, HGy, xGy, rfl⟩
      simp only [] at g0y g1y g6y g7y g8y g9y g10y g11y HGy xGy
      simp only [] at hNA hNB h2n
      have hvA : lv H 4 (.osl xA 0 nA) = .isl (A.map rgC) := by have := hNA.lv 2; rw [hnA] at this; exact this
      have hvB : lv H 4 (.osl xB 0 nB) = .isl (B.map rgC) := by have := hNB.lv 2; rw [hnB] at this; exact this
      refine hK14 _ ?_
      refine .sq fun K15 hK15 => ?_
      refine .sq fun K16 hK16 => ?_
      refine .region ?_
      refine .k 2 ?_ (by simp (disch := first|omega|(simp only[ln];omega)) [List.take_succ_cons, List.take_zero, g0y, g1y, g6y, g7y, g8y, g9y, g10y, g11y, HGy]; rfl)
      refine AOPS.lcall 4 (eqSegS_fc S (by omega)) rfl rfl rfl hb34 (by simp (disch := first|omega|(simp only[ln];omega)) [lv, idf_Wd', lv_sp, lv_sg, lv_m2, lv_int, lv_bool, lv_nsl, lv_m4, List.map_map, List.length_map, hSl, tkT, mkR_len, mkR_tk, g0y, g1y, g6y, g7y, g8y, g9y, g10y, g11y, HGy, g0y, g1y, g6y, g7y, g8y, g9y, g10y, g11y, HGy]) (by simp [atm, atmL]) (by simp (disch := first|omega|(simp only[ln];omega)) [g0y, g1y, g6y, g7y, g8y, g9y, g10y, g11y, HGy]) (by simp) ?_
      simp only [puts_some, updo]
      refine .e ?_ (by simp (disch := first|omega|(simp only[ln];omega)) [g0y, g1y, g6y, g7y, g8y, g9y, g10y, g11y, HGy]; rfl)
      refine hK16 _ ?_
      refine .c (fun h53 => ?_) (fun h53 => ?_)
      ·simp at h53
      ·try simp only[dc]at h53
       refine .skip ?_
       refine hK15 _ ?_
       refine .sq fun K17 hK17 => ?_
       refine .sq fun K18 hK18 => ?_
       refine .region ?_
       refine .kf 2 tA hb32 ?_ (by simp (disch := first|omega|(simp only[ln];omega)) [List.take_succ_cons, List.take_zero, g0y, g1y, g6y, g7y, g8y, g9y, g10y, g11y, HGy]; rfl) (ha := by simp (disch := first|omega|(simp only[ln];omega)) [idf_Wd', g0y, g1y, g6y, g7y, g8y, g9y, g10y, g11y, HGy])
       refine AOPS.lcall 4 (eA) rfl rfl rfl hb35 (by simp (disch := first|omega|(simp only[ln];omega)) [lv, idf_Wd', lv_sp, lv_sg, lv_m2, lv_int, lv_bool, lv_nsl, lv_m4, List.map_map, List.length_map, ↓hvA, ↓hvB, lv_rgC, lv_rgD, hSl, tkT, mkR_len, mkR_tk, g0y, g1y, g6y, g7y, g8y, g9y, g10y, g11y, HGy]) (by simp [atm, atmL]) (by simp (disch := first|omega|(simp only[ln];omega)) [g0y, g1y, g6y, g7y, g8y, g9y, g10y, g11y, HGy]) (by simp) ?_
       simp only [puts_some, updo]
       refine .e ?_ (by simp (disch := first|omega|(simp only[ln];omega)) [g0y, g1y, g6y, g7y, g8y, g9y, g10y, g11y, HGy]; rfl)
       refine hK18 _ ?_
       refine .c (fun h58 => ?_) (fun h58 => ?_)
       ·simp at h58
       ·try simp only[dc]at h58
        refine .skip ?_
        refine hK17 _ ?_
        refine .sq fun K19 hK19 => ?_
        refine .sq fun K20 hK20 => ?_
        refine .region ?_
        refine .kf 2 tB hb32 ?_ (by simp (disch := first|omega|(simp only[ln];omega)) [List.take_succ_cons, List.take_zero, g0y, g1y, g6y, g7y, g8y, g9y, g10y, g11y, HGy]; rfl) (ha := by simp (disch := first|omega|(simp only[ln];omega)) [idf_Wd', g0y, g1y, g6y, g7y, g8y, g9y, g10y, g11y, HGy])
        refine AOPS.lcall 4 (eB) rfl rfl rfl hb35 (by simp (disch := first|omega|(simp only[ln];omega)) [lv, idf_Wd', lv_sp, lv_sg, lv_m2, lv_int, lv_bool, lv_nsl, lv_m4, List.map_map, List.length_map, ↓hvA, ↓hvB, lv_rgC, lv_rgD, hSl, tkT, mkR_len, mkR_tk, g0y, g1y, g6y, g7y, g8y, g9y, g10y, g11y, HGy]) (by simp [atm, atmL]) (by simp (disch := first|omega|(simp only[ln];omega)) [g0y, g1y, g6y, g7y, g8y, g9y, g10y, g11y, HGy]) (by simp) ?_
        simp only [puts_some, updo]
        refine .e ?_ (by simp (disch := first|omega|(simp only[ln];omega)) [g0y, g1y, g6y, g7y, g8y, g9y, g10y, g11y, HGy]; rfl)
        refine hK20 _ ?_
        refine .c (fun h63 => ?_) (fun h63 => ?_)
        ·simp at h63
        ·try simp only[dc]at h63
         refine .skip ?_
         refine hK19 _ ?_
         refine .q ?_
         refine .sq fun K22 hK22 => ?_
         have J22 : ∀ s : St, (∃ ig : Nat, ∃ h2 : Nat, (Nst s.heap h1 h2 xB fB B) ∧ (h2 ≤ s.nx) ∧ (h2 ≤ ig) ∧ s.env 0 = .isl (A.map rgC) ∧ s.env 1 = .isl (B.map rgC) ∧ s.env 6 = .isl (S.map Sg.cells) ∧ s.env 7 = .bool true ∧ s.env 9 = .osl xB 0 nB ∧ s.env 10 = .osl ig 0 m ∧ s.env 11 = .bool true ∧ s.env 12 = .int .i64 (1 + 2 * (lyN A : Int)) ∧ s.heap ig = some (4, S.map Sg.cells) ∧ ig < s.nx ∧ s.nt = 119) → K22 s := by
          clear hvA hvB
          rintro ⟨e, H, mm, nt⟩ ⟨ig, h2, hNB, h2n, hgi, g0m, g1m, g6m, g7m, g9m, g10m, g11m, g12m, HGm, xGm, rfl⟩
          simp only [] at g0m g1m g6m g7m g9m g10m g11m g12m HGm xGm
          simp only [] at hNB h2n
          refine hK22 _ ?_
          refine .sq fun K23 hK23 => ?_
          have J23 : ∀ s : St, (∃ ig : Nat, ∃ K : Int, (0 ≤ K) ∧ s.env 0 = .isl (A.map rgC) ∧ s.env 1 = .isl (B.map rgC) ∧ s.env 6 = .isl (S.map Sg.cells) ∧ s.env 7 = .bool true ∧ s.env 10 = .osl ig 0 m ∧ s.env 11 = .bool true ∧ s.env 12 = .int .i64 K ∧ s.heap ig = some (4, S.map Sg.cells) ∧ ig < s.nx ∧ s.nt = 119) → K23 s := by
           rintro ⟨e, H, mm, nt⟩ ⟨ig, K, hKp, g0a, g1a, g6a, g7a, g10a, g11a, g12a, HGa, xGa, rfl⟩
           simp only [] at g0a g1a g6a g7a g10a g11a g12a HGa xGa
           refine hK23 _ ?_
           refine .sq fun K24 hK24 => ?_
           refine .sq fun K25 hK25 => ?_
           have negK : decide (K < 0) = false := by simp; omega
           refine .region ?_
           refine .k 5 ?_ (by simp (disch := first|omega|(simp only[ln];omega)) [List.take_succ_cons, List.take_zero, g0a, g1a, g6a, g7a, g10a, g11a, g12a, HGa, negK]; rfl)
           refine AOPS.lcall 4 (eqSegS_fc S (by omega)) rfl rfl rfl hb34 (by simp (disch := first|omega|(simp only[ln];omega)) [lv, idf_Wd', lv_sp, lv_sg, lv_m2, lv_int, lv_bool, lv_nsl, lv_m4, List.map_map, List.length_map, hSl, tkT, mkR_len, mkR_tk, g0a, g1a, g6a, g7a, g10a, g11a, g12a, HGa, g0a, g1a, g6a, g7a, g10a, g11a, g12a, HGa, negK]) (by simp [atm, atmL]) (by simp (disch := first|omega|(simp only[ln];omega)) [g0a, g1a, g6a, g7a, g10a, g11a, g12a, HGa, negK]) (by simp) ?_
           simp only [puts_some, updo]
           refine .e ?_ (by simp (disch := first|omega|(simp only[ln];omega)) [g0a, g1a, g6a, g7a, g10a, g11a, g12a, HGa, negK]; rfl)
           refine hK25 _ ?_
           refine .c (fun h82 => ?_) (fun h82 => ?_)
           ·simp at h82
           ·try simp only[dc]at h82
            refine .skip ?_
            refine hK24 _ ?_
            refine .q ?_
            refine .sq fun K27 hK27 => ?_
            have J27 : ∀ s : St, (∃ ig : Nat, s.env 0 = .isl (A.map rgC) ∧ s.env 1 = .isl (B.map rgC) ∧ s.env 6 = .isl (S.map Sg.cells) ∧ s.env 7 = .bool true ∧ s.env 10 = .osl ig 0 m ∧ s.env 11 = .bool true ∧ s.env 13 = .int .i64 (1 + 4 * (m : Int)) ∧ s.heap ig = some (4, mkR (m4 1) m) ∧ ig < s.nx ∧ s.nt = 119) → K27 s := by
             rintro ⟨e, H, mm, nt⟩ ⟨ig, g0b, g1b, g6b, g7b, g10b, g11b, g13b, HGb, xGb, rfl⟩
             simp only [] at g0b g1b g6b g7b g10b g11b g13b HGb xGb
             refine hK27 _ ?_
             refine .q ?_
             refine .sq fun K29 hK29 => ?_
             refine .region ?_
             refine .k 2 ?_ (by simp (disch := first|omega|(simp only[ln];omega)) [List.take_succ_cons, List.take_zero, g0b, g1b, g6b, g7b, g10b, g11b, g13b, HGb]; rfl)
             refine AOPS.lcall 4 (heldSegS_fc m 1 (by omega) (by omega) (by omega)) rfl rfl rfl hb38 (by simp (disch := first|omega|(simp only[ln];omega)) [lv, idf_Wd', lv_sp, lv_sg, lv_m2, lv_int, lv_bool, lv_nsl, lv_m4, List.map_map, List.length_map, hSl, tkT, mkR_len, mkR_tk, g0b, g1b, g6b, g7b, g10b, g11b, g13b, HGb, g0b, g1b, g6b, g7b, g10b, g11b, g13b, HGb]) (by simp [atm, atmL]) (by simp (disch := first|omega|(simp only[ln];omega)) [g0b, g1b, g6b, g7b, g10b, g11b, g13b, HGb]) (by simp) ?_
             simp only [puts_some, updo]
             refine .e ?_ (by simp (disch := first|omega|(simp only[ln];omega)) [g0b, g1b, g6b, g7b, g10b, g11b, g13b, HGb]; rfl)
             refine hK29 _ ?_
             refine .sq fun K30 hK30 => ?_
             refine .q ?_ (by simp (disch := first|omega|(simp only[ln];omega)) [neg4]; rfl)
             refine .c (t := false) (fun h90 => ?_) (fun h90 => ?_) (by simp (disch := first|omega|(simp only[ln];omega)) [neg4])
             ·simp at h90
             ·try simp only[dc]at h90
              refine .skip ?_
              refine hK30 _ ?_
              refine .sq fun K32 hK32 => ?_
              refine .q ?_ (by simp (disch := first|omega|(simp only[ln];omega)) [g0b, g1b, g6b, g7b, g10b, g11b, g13b, HGb]; rfl)
              refine .c (fun h93 => ?_) (fun h93 => ?_)
              ·simp at h93
              ·try simp only[dc]at h93
               refine .skip ?_
               refine hK32 _ ?_
               refine .sq fun K34 hK34 => ?_
               refine .region ?_
               refine .kf 1 tA hb32 ?_ (by simp (disch := first|omega|(simp only[ln];omega)) [List.take_succ_cons, List.take_zero, g0b, g1b, g6b, g7b, g10b, g11b, g13b, HGb]; rfl) (ha := by simp (disch := first|omega|(simp only[ln];omega)) [idf_Wd', g0b, g1b, g6b, g7b, g10b, g11b, g13b, HGb])
               refine .kf 1 tB hb32 ?_ (by simp (disch := first|omega|(simp only[ln];omega)) [List.take_succ_cons, List.take_zero, g0b, g1b, g6b, g7b, g10b, g11b, g13b, HGb]; rfl) (ha := by simp (disch := first|omega|(simp only[ln];omega)) [idf_Wd', g0b, g1b, g6b, g7b, g10b, g11b, g13b, HGb])
               refine AOPS.ocallL 4 (cI _) rfl rfl rfl hb40 (by simp (disch := first|omega|(simp only[ln];omega)) [lv, idf_Wd', lv_sp, lv_sg, lv_m2, lv_int, lv_bool, lv_nsl, lv_m4, List.map_map, List.length_map, lv_rgC, lv_rgD, g0b, g1b, g6b, g7b, g10b, g11b, g13b, HGb]) (⟨fun _ h => by simp [nwr, nwrL]; try exact h, by simp [nwr, nwrL, Sp.cells, Sg.cells]⟩) (by simp (disch := first|omega|(simp only[ln];omega)) [g0b, g1b, g6b, g7b, g10b, g11b, g13b, HGb]) (by simp) ?_
               intro ih nx6 hj1 hj2
               simp only [] at hj1 hj2
               simp only [puts_some, updo]
               refine .e ?_ (by simp (disch := first|omega|(simp only[ln];omega)) [g0b, g1b, g6b, g7b, g10b, g11b, g13b, HGb]; rfl)
               refine hK34 _ ?_
               refine .sq fun K35 hK35 => ?_
               refine .sq fun K36 hK36 => ?_
               refine .region ?_
               refine .k 2 ?_ (by simp (disch := first|omega|(simp only[ln];omega)) [List.take_succ_cons, List.take_zero, g0b, g1b, g6b, g7b, g10b, g11b, g13b, HGb]; rfl)
               refine AOPS.lcall 4 (eqSegS_fc S (by omega)) rfl rfl rfl hb34 (by simp (disch := first|omega|(simp only[ln];omega)) [lv, idf_Wd', lv_sp, lv_sg, lv_m2, lv_int, lv_bool, lv_nsl, lv_m4, List.map_map, List.length_map, hSl, tkT, mkR_len, mkR_tk, g0b, g1b, g6b, g7b, g10b, g11b, g13b, HGb, g0b, g1b, g6b, g7b, g10b, g11b, g13b, HGb]) (by simp [atm, atmL]) (by simp (disch := first|omega|(simp only[ln];omega)) [g0b, g1b, g6b, g7b, g10b, g11b, g13b, HGb]) (by simp) ?_
               simp only [puts_some, updo]
               refine .e ?_ (by simp (disch := first|omega|(simp only[ln];omega)) [g0b, g1b, g6b, g7b, g10b, g11b, g13b, HGb]; rfl)
               refine hK36 _ ?_
               refine .c (fun h110 => ?_) (fun h110 => ?_)
               ·simp at h110
               ·try simp only[dc]at h110
                refine .skip ?_
                refine hK35 _ ?_
                refine .q ?_
                refine .sq fun K38 hK38 => ?_
                refine .region ?_
                refine .k 2 ?_ (by simp (disch := first|omega|(simp only[ln];omega)) [List.take_succ_cons, List.take_zero, g0b, g1b, g6b, g7b, g10b, g11b, g13b, HGb]; rfl)
                refine AOPS.lcall 4 (heldSegS_fc m 1 (by omega) (by omega) (by omega)) rfl rfl rfl hb38 (by simp (disch := first|omega|(simp only[ln];omega)) [lv, idf_Wd', lv_sp, lv_sg, lv_m2, lv_int, lv_bool, lv_nsl, lv_m4, List.map_map, List.length_map, hSl, tkT, mkR_len, mkR_tk, g0b, g1b, g6b, g7b, g10b, g11b, g13b, HGb, g0b, g1b, g6b, g7b, g10b, g11b, g13b, HGb]) (by simp [atm, atmL]) (by simp (disch := first|omega|(simp only[ln];omega)) [g0b, g1b, g6b, g7b, g10b, g11b, g13b, HGb]) (by simp) ?_
                simp only [puts_some, updo]
                refine .e ?_ (by simp (disch := first|omega|(simp only[ln];omega)) [g0b, g1b, g6b, g7b, g10b, g11b, g13b, HGb]; rfl)
                refine hK38 _ ?_
                refine .sq fun K39 hK39 => ?_
                refine .q ?_ (by simp (disch := first|omega|(simp only[ln];omega)) [neg4]; rfl)
                refine .c (t := false) (fun h115 => ?_) (fun h115 => ?_) (by simp (disch := first|omega|(simp only[ln];omega)) [neg4])
                ·simp at h115
                ·try simp only[dc]at h115
                 refine .skip ?_
                 refine hK39 _ ?_
                 refine .sq fun K41 hK41 => ?_
                 refine .q ?_ (by simp (disch := first|omega|(simp only[ln];omega)) [g0b, g1b, g6b, g7b, g10b, g11b, g13b, HGb]; rfl)
                 refine .c (fun h118 => ?_) (fun h118 => ?_)
                 ·simp at h118
                 ·try simp only[dc]at h118
                  refine .skip ?_
                  refine hK41 _ ?_
                  refine .q ?_
                  refine .ret ?_
                  exact hK _ _ _ _ trivial ((Fin.m))
            refine .region ?_
            refine .k 2 ?_ (by simp (disch := first|omega|(simp only[ln];omega)) [List.take_succ_cons, List.take_zero, g0a, g1a, g6a, g7a, g10a, g11a, g12a, HGa]; rfl)
            refine .a (markSegS_ac m ig (S.map Sg.cells) 1 _ _ (by simp (disch := omega) [HGa]) (by rw [List.length_map]; exact hSl) (segrow_len S) (by omega) (by omega) (by omega)) hb37 ?_ (ha := by simp (disch := first|omega|(simp only[ln];omega)) [idf_Wd', g0a, g1a, g6a, g7a, g10a, g11a, g12a, HGa])
            rintro _ _ _ ⟨rfl, rfl, rfl⟩
            refine .e ?_ (by simp (disch := first|omega|(simp only[ln];omega)) [g0a, g1a, g6a, g7a, g10a, g11a, g12a, HGa]; rfl)
            refine J27 _ ?_
            refine ⟨ig, ?_, ?_, ?_, ?_, ?_, ?_, ?_, ?_, ?_, rfl⟩ <;> first|(simp (disch := omega) [g0a, g1a, g6a, g7a, g10a, g11a, g12a, HGa];done)|omega|(simp;done)|(simp;omega)
          refine .region ?_
          refine .k 2 ?_ (by simp (disch := first|omega|(simp only[ln];omega)) [List.take_succ_cons, List.take_zero, g0m, g1m, g6m, g7m, g9m, g10m, g11m, g12m, HGm]; rfl)
          refine .a (markRingS_nest B nB xB h1 h2 fB (1 + 2 * (lyN A : Int)) _ _ hnB hNB (by first|omega|(simp;omega)) (by omega) (by omega) (by omega) kyB) hb36 ?_ (ha := by simp (disch := first|omega|(simp only[ln];omega)) [idf_Wd', g0m, g1m, g6m, g7m, g9m, g10m, g11m, g12m, HGm])
          rintro _ H2 nx5 ⟨rfl, hfr, hle⟩
          simp only [] at hfr hle
          refine .e ?_ (by simp (disch := first|omega|(simp only[ln];omega)) [g0m, g1m, g6m, g7m, g9m, g10m, g11m, g12m, HGm]; rfl)
          refine J23 _ ?_
          refine ⟨ig, (1 + 2 * (lyN A : Int)) + 2 * (lyN B : Int), by omega, ?_, ?_, ?_, ?_, ?_, ?_, ?_, ?_, ?_, rfl⟩ <;> first|(simp (disch := omega) [g0m, g1m, g6m, g7m, g9m, g10m, g11m, g12m, HGm];done)|(simp only []; rw [hfr ig (by omega) (fun q hq e => by have := hNB.fr q hq; omega)]; simp [HGm];done)|omega|(simp;done)|(simp;omega)
         refine .region ?_
         refine .k 2 ?_ (by simp (disch := first|omega|(simp only[ln];omega)) [List.take_succ_cons, List.take_zero, g0y, g1y, g6y, g7y, g8y, g9y, g10y, g11y, HGy]; rfl)
         refine .a (markRingS_nest A nA xA nx h1 fA 1 _ _ hnA hNA (by first|omega|(simp;omega)) (by omega) (by omega) (by omega) kyA) hb36 ?_ (ha := by simp (disch := first|omega|(simp only[ln];omega)) [idf_Wd', g0y, g1y, g6y, g7y, g8y, g9y, g10y, g11y, HGy])
         rintro _ H2 nx4 ⟨rfl, hfr, hle⟩
         simp only [] at hfr hle
         refine .e ?_ (by simp (disch := first|omega|(simp only[ln];omega)) [g0y, g1y, g6y, g7y, g8y, g9y, g10y, g11y, HGy]; rfl)
         refine J22 _ ?_
         refine ⟨ig, h2, hNB.mono (Nat.le_refl _) (fun k a1 a2 => by simp only []; exact (hfr k (by omega) (fun q hq e => by have := hNA.fr q hq; omega)).trans (by simp)), by simp only []; omega, hgi, ?_, ?_, ?_, ?_, ?_, ?_, ?_, ?_, ?_, ?_, rfl⟩ <;> first|(simp (disch := omega) [g0y, g1y, g6y, g7y, g8y, g9y, g10y, g11y, HGy];done)|(simp only []; rw [hfr ig (by omega) (fun q hq e => by have := hNA.fr q hq; omega)]; simp [HGy];done)|omega|(simp;done)|(simp;omega)
     refine .region ?_
     refine .k 2 ?_ (by simp (disch := first|omega|(simp only[ln];omega)) [List.take_succ_cons, List.take_zero, g0x, g1x, g6x, g7x, g8x, g9x]; rfl)
     refine AOPS.ocallL 4 (cI _) rfl rfl rfl hb40 (by simp (disch := first|omega|(simp only[ln];omega)) [lv, idf_Wd', lv_sp, lv_sg, lv_m2, lv_int, lv_bool, lv_nsl, lv_m4, List.map_map, List.length_map, ↓hvA, ↓hvB, lv_rgC, lv_rgD, hSl, tkT, mkR_len, mkR_tk, g0x, g1x, g6x, g7x, g8x, g9x]) (⟨fun _ h => by simp [nwr, nwrL]; try exact h, by simp [nwr, nwrL, Sp.cells, Sg.cells]⟩) (by simp (disch := first|omega|(simp only[ln];omega)) [g0x, g1x, g6x, g7x, g8x, g9x]) (by simp) ?_
     intro ig nx3 hi1 hi2
     simp only [] at hi1 hi2
     simp only [puts_some, updo]
     refine .e ?_ (by simp (disch := first|omega|(simp only[ln];omega)) [g0x, g1x, g6x, g7x, g8x, g9x]; rfl)
     refine J14 _ ?_
     refine ⟨ig, mm, hNA.mono (Nat.le_refl _) (fun k h1 h2 => by have := hNB.ixr; simp [hupd]; omega), hNB.mono (Nat.le_refl _) (fun k h1 h2 => by simp [hupd]; omega), by have := hNB.ixr; omega, by simp; omega, hi1, ?_, ?_, ?_, ?_, ?_, ?_, ?_, ?_, ?_, ?_, rfl⟩ <;> first|(simp (disch := omega) [g0x, g1x, g6x, g7x, g8x, g9x];done)|omega|(simp;done)|(simp;omega)
    refine .region ?_
    refine .k 1 ?_ (by simp (disch := first|omega|(simp only[ln];omega)) [List.take_succ_cons, List.take_zero, g0, g1, g6, g7, g8]; rfl)
    refine AOPS.lacall 4 (toRingS_nest B nB hnB (by omega) kB3 _) rfl rfl rfl hb32 (by simp (disch := first|omega|(simp only[ln];omega)) [lv, idf_Wd', lv_sp, lv_sg, lv_m2, lv_int, lv_bool, lv_nsl, lv_m4, List.map_map, List.length_map, lv_rgC, lv_rgD, g0, g1, g6, g7, g8]) (fun r H nx' h => by obtain ⟨ix, f, rfl, hN, hw⟩ := h; exact ⟨hN.ixr.1, hw⟩) (by simp (disch := first|omega|(simp only[ln];omega)) [g0, g1, g6, g7, g8]) (by simp) ?_
    rintro _ HN nx2 ⟨ix, f, rfl, hN, hw⟩ hle
    simp only [] at hN hle
    simp only [puts_some, updo]
    refine .e ?_ (by simp (disch := first|omega|(simp only[ln];omega)) [g0, g1, g6, g7, g8]; rfl)
    refine J13 _ ?_
    refine ⟨mm, ix, f, hNA.mono (Nat.le_refl _) (fun k h1 h2 => by simp [hjoin]; omega), hN.mono (Nat.le_refl _) (fun k h1 h2 => by simp [hjoin]; omega), ?_, ?_, ?_, ?_, ?_, ?_, rfl⟩ <;> first|(simp (disch := omega) [g0, g1, g6, g7, g8];done)|omega|(simp;done)|(simp;omega)
   refine .region ?_
   refine .k 1 ?_
   refine AOPS.lacall 4 (toRingS_nest A nA hnA (by omega) kA3 _) rfl rfl rfl hb32 (by simp (disch := first|omega|(simp only[ln];omega)) [lv, idf_Wd', lv_sp, lv_sg, lv_m2, lv_int, lv_bool, lv_nsl, lv_m4, List.map_map, List.length_map, lv_rgC, lv_rgD]) (fun r H nx' h => by obtain ⟨ix, f, rfl, hN, hw⟩ := h; exact ⟨hN.ixr.1, hw⟩) (by simp (disch := first|omega|(simp only[ln];omega))) (by simp) ?_
   rintro _ HN nx2 ⟨ix, f, rfl, hN, hw⟩ hle
   simp only [] at hN hle
   simp only [puts_some, updo]
   refine .e ?_
   refine J12 _ ?_
   refine ⟨ix, f, hN.mono (Nat.le_refl _) (fun k h1 h2 => by simp [hjoin]; omega), ?_, ?_, ?_, ?_, ?_, rfl⟩ <;> first|(simp (disch := omega) [];done)|omega|(simp;done)|(simp;omega)
set_option maxHeartbeats 8000000 in
theorem fnExactOverlaid_no (A B : List (List Sp)) (hA : A.length ≤ 9223372036854775807) (hA2 : ∀ r ∈ A, r.length ≤ 9223372036854775807) (hB : B.length ≤ 9223372036854775807) (hB2 : ∀ r ∈ B, r.length ≤ 9223372036854775807) (z : ¬ ((lyF A).1 = 0 ∧ (lyF B).1 = 0)) : FC Tryz.prog 6 [.isl (A.map rgC), .isl (B.map rgC)] (.bool true) := by
 have szA := szRingS_fc A hA hA2
 rw [rgs] at szA
 refine .b Tryz.func6 119 (fun nx K hK => ?_) (hi := by simp [idfL, idf, idfLL_iff, rgC, Sp.cells])
 refine .q ?_
 refine .q ?_
 refine .sq fun K3 hK3 => ?_
 refine .region ?_
 refine .kf 2 szA hb30 ?_
 refine .e ?_
 refine hK3 _ ?_
 refine .sq fun K4 hK4 => ?_
 refine .q ?_
 refine .c (t := decide (srA A 1048576 < 0)) (fun h21 => ?_) (fun h21 => ?_)
 ·try simp only[dc]at h21
  refine .q ?_
  refine .ret ?_
  exact hK _ _ _ _ trivial ((Fin.m))
 ·try simp only[dc]at h21
  have n1l := srA_le (L := A) (n := 1048576) (by omega)
  obtain ⟨n1, hn1⟩ : ∃ n1, n1 = srA A 1048576 := ⟨_, rfl⟩
  rw [← hn1] at n1l h21 ⊢
  have szB := szRingS_fcN B hB hB2 n1 (by omega) (by omega)
  rw [rgs] at szB
  refine .skip ?_
  refine hK4 _ ?_
  refine .sq fun K7 hK7 => ?_
  refine .region ?_
  refine .kf 2 szB hb30 ?_
  refine .e ?_
  refine hK7 _ ?_
  refine .sq fun K8 hK8 => ?_
  refine .q ?_
  refine .c (t := decide (srA B n1 < 0)) (fun h26 => ?_) (fun h26 => ?_)
  ·try simp only[dc]at h26
   refine .q ?_
   refine .ret ?_
   exact hK _ _ _ _ trivial ((Fin.m))
  ·try simp only[dc]at h26
   obtain ⟨kA0, kA2, kAn⟩ := srA_b (L := A) (n := 1048576) (by omega)
   obtain ⟨kB0, kB2, kBn⟩ := srA_b (L := B) (n := n1) (by omega)
   have kA1 : A.length ≤ 1048576 := by omega
   have kA3 : ∀ r ∈ A, r.length ≤ 1048576 := fun r hr => by have := kA2 r hr; omega
   have qA1 : A.length ≤ 1099511627776 := by omega
   have qA2 : ∀ r ∈ A, r.length ≤ 1099511627776 := fun r hr => by have := kA3 r hr; omega
   have tA := toRingS_fc A kA1 kA3
   rw [rgs] at tA
   have eA := eqRingS_fc A hA hA2
   rw [rgs] at eA
   have kyA : lyN A ≤ 1048576 := by omega
   obtain ⟨nA, hnA⟩ : ∃ n, A.length = n := ⟨_, rfl⟩
   have kB1 : B.length ≤ 1048576 := by omega
   have kB3 : ∀ r ∈ B, r.length ≤ 1048576 := fun r hr => by have := kB2 r hr; omega
   have qB1 : B.length ≤ 1099511627776 := by omega
   have qB2 : ∀ r ∈ B, r.length ≤ 1099511627776 := fun r hr => by have := kB3 r hr; omega
   have tB := toRingS_fc B kB1 kB3
   rw [rgs] at tB
   have eB := eqRingS_fc B hB hB2
   rw [rgs] at eB
   have kyB : lyN B ≤ 1048576 := by omega
   obtain ⟨nB, hnB⟩ : ∃ n, B.length = n := ⟨_, rfl⟩
   have hSl := ovG_len A B
   obtain ⟨S, hS⟩ : ∃ S, S = ovG A B := ⟨_, rfl⟩
   obtain ⟨m, hm⟩ : ∃ m, lyN A + lyN B = m := ⟨_, rfl⟩
   rw [← hS, hm] at hSl
   have cS := overlaidS_no A B qA1 qA2 qB1 qB2 z
   have cI := overlaidI_no A B qA1 qA2 qB1 qB2 z
   have tkT : List.take m (List.map Sg.cells S) = List.map Sg.cells S := List.take_of_length_le (by rw [List.length_map]; omega)
   have neg4 : decide (1 + 4 * (m : Int) < 0) = false := by simp; omega
   refine .skip ?_
   refine hK8 _ ?_
   refine .sq fun K11 hK11 => ?_
   refine .region ?_
   refine .kf 1 tA hb32 ?_
   refine .kf 1 tB hb32 ?_
   refine .f cS hb39 ?_
   refine .e ?_
   refine hK11 _ ?_
   refine .sq fun K12 hK12 => ?_
   have J12 : ∀ s : St, (∃ (xA : Nat) (fA : Nat → Nat), (Nst s.heap nx s.nx xA fA A) ∧ s.env 0 = .isl (A.map rgC) ∧ s.env 1 = .isl (B.map rgC) ∧ s.env 6 = .nsl ∧ s.env 7 = .bool false ∧ s.env 8 = .osl xA 0 nA ∧ s.nt = 119) → K12 s := by
    rintro ⟨e, H, mm, nt⟩ ⟨xA, fA, hNA, g0, g1, g6, g7, g8, rfl⟩
    simp only [] at g0 g1 g6 g7 g8
    simp only [] at hNA
    refine hK12 _ ?_
    refine .sq fun K13 hK13 => ?_
    have J13 : ∀ s : St, (∃ (h1 xB : Nat) (fB : Nat → Nat), (Nst s.heap nx h1 xA fA A) ∧ (Nst s.heap h1 s.nx xB fB B) ∧ s.env 0 = .isl (A.map rgC) ∧ s.env 1 = .isl (B.map rgC) ∧ s.env 6 = .nsl ∧ s.env 7 = .bool false ∧ s.env 8 = .osl xA 0 nA ∧ s.env 9 = .osl xB 0 nB ∧ s.nt = 119) → K13 s := by
     rintro ⟨e, H, mm, nt⟩ ⟨h1, xB, fB, hNA, hNB, g0x, g1x, g6x, g7x, g8x, g9x, rfl⟩
     simp only [] at g0x g1x g6x g7x g8x g9x
     simp only [] at hNA hNB
     have hvA : lv H 4 (.osl xA 0 nA) = .isl (A.map rgC) := by have := hNA.lv 2; rw [hnA] at this; exact this
     have hvB : lv H 4 (.osl xB 0 nB) = .isl (B.map rgC) := by have := hNB.lv 2; rw [hnB] at this; exact this
     refine hK13 _ ?_
     refine .sq fun K14 hK14 => ?_
     have J14 : ∀ s : St, (∃ h2 : Nat, (Nst s.heap nx h1 xA fA A) ∧ (Nst s.heap h1 h2 xB fB B) ∧ (h1 ≤ h2) ∧ (h2 ≤ s.nx) ∧ s.env 0 = .isl (A.map rgC) ∧ s.env 1 = .isl (B.map rgC) ∧ s.env 6 = .nsl ∧ s.env 7 = .bool false ∧ s.env 8 = .osl xA 0 nA ∧ s.env 9 = .osl xB 0 nB ∧ s.env 10 = .nsl ∧ s.env 11 = .bool false ∧ s.nt = 119) → K14 s := by
      clear hvA hvB
      rintro ⟨e, H, mm, nt⟩ ⟨h2, hNA, hNB, h12, h2n, g0y, g1y, g6y, g7y, g8y, g9y, g10y, g11y, rfl⟩
      simp only [] at g0y g1y g6y g7y g8y g9y g10y g11y
      simp only [] at hNA hNB h2n
      have hvA : lv H 4 (.osl xA 0 nA) = .isl (A.map rgC) := by have := hNA.lv 2; rw [hnA] at this; exact this
      have hvB : lv H 4 (.osl xB 0 nB) = .isl (B.map rgC) := by have := hNB.lv 2; rw [hnB] at this; exact this
      refine hK14 _ ?_
      refine .sq fun K15 hK15 => ?_
      refine .sq fun K16 hK16 => ?_
      refine .region ?_
      refine .kf 2 eqSegS_nil2n hb34 ?_ (by simp (disch := first|omega|(simp only[ln];omega)) [List.take_succ_cons, List.take_zero, g0y, g1y, g6y, g7y, g8y, g9y, g10y, g11y]; rfl) (ha := by simp (disch := first|omega|(simp only[ln];omega)) [idf_Wd', g0y, g1y, g6y, g7y, g8y, g9y, g10y, g11y])
      refine .e ?_ (by simp (disch := first|omega|(simp only[ln];omega)) [g0y, g1y, g6y, g7y, g8y, g9y, g10y, g11y]; rfl)
      refine hK16 _ ?_
      refine .c (fun h53 => ?_) (fun h53 => ?_)
      ·simp at h53
      ·try simp only[dc]at h53
       refine .skip ?_
       refine hK15 _ ?_
       refine .sq fun K17 hK17 => ?_
       refine .sq fun K18 hK18 => ?_
       refine .region ?_
       refine .kf 2 tA hb32 ?_ (by simp (disch := first|omega|(simp only[ln];omega)) [List.take_succ_cons, List.take_zero, g0y, g1y, g6y, g7y, g8y, g9y, g10y, g11y]; rfl) (ha := by simp (disch := first|omega|(simp only[ln];omega)) [idf_Wd', g0y, g1y, g6y, g7y, g8y, g9y, g10y, g11y])
       refine AOPS.lcall 4 (eA) rfl rfl rfl hb35 (by simp (disch := first|omega|(simp only[ln];omega)) [lv, idf_Wd', lv_sp, lv_sg, lv_m2, lv_int, lv_bool, lv_nsl, lv_m4, List.map_map, List.length_map, ↓hvA, ↓hvB, lv_rgC, lv_rgD, hSl, tkT, mkR_len, mkR_tk, g0y, g1y, g6y, g7y, g8y, g9y, g10y, g11y]) (by simp [atm, atmL]) (by simp (disch := first|omega|(simp only[ln];omega)) [g0y, g1y, g6y, g7y, g8y, g9y, g10y, g11y]) (by simp) ?_
       simp only [puts_some, updo]
       refine .e ?_ (by simp (disch := first|omega|(simp only[ln];omega)) [g0y, g1y, g6y, g7y, g8y, g9y, g10y, g11y]; rfl)
       refine hK18 _ ?_
       refine .c (fun h58 => ?_) (fun h58 => ?_)
       ·simp at h58
       ·try simp only[dc]at h58
        refine .skip ?_
        refine hK17 _ ?_
        refine .sq fun K19 hK19 => ?_
        refine .sq fun K20 hK20 => ?_
        refine .region ?_
        refine .kf 2 tB hb32 ?_ (by simp (disch := first|omega|(simp only[ln];omega)) [List.take_succ_cons, List.take_zero, g0y, g1y, g6y, g7y, g8y, g9y, g10y, g11y]; rfl) (ha := by simp (disch := first|omega|(simp only[ln];omega)) [idf_Wd', g0y, g1y, g6y, g7y, g8y, g9y, g10y, g11y])
        refine AOPS.lcall 4 (eB) rfl rfl rfl hb35 (by simp (disch := first|omega|(simp only[ln];omega)) [lv, idf_Wd', lv_sp, lv_sg, lv_m2, lv_int, lv_bool, lv_nsl, lv_m4, List.map_map, List.length_map, ↓hvA, ↓hvB, lv_rgC, lv_rgD, hSl, tkT, mkR_len, mkR_tk, g0y, g1y, g6y, g7y, g8y, g9y, g10y, g11y]) (by simp [atm, atmL]) (by simp (disch := first|omega|(simp only[ln];omega)) [g0y, g1y, g6y, g7y, g8y, g9y, g10y, g11y]) (by simp) ?_
        simp only [puts_some, updo]
        refine .e ?_ (by simp (disch := first|omega|(simp only[ln];omega)) [g0y, g1y, g6y, g7y, g8y, g9y, g10y, g11y]; rfl)
        refine hK20 _ ?_
        refine .c (fun h63 => ?_) (fun h63 => ?_)
        ·simp at h63
        ·try simp only[dc]at h63
         refine .skip ?_
         refine hK19 _ ?_
         refine .q ?_
         refine .sq fun K22 hK22 => ?_
         have J22 : ∀ s : St, (∃ h2 : Nat, (Nst s.heap h1 h2 xB fB B) ∧ (h2 ≤ s.nx) ∧ s.env 0 = .isl (A.map rgC) ∧ s.env 1 = .isl (B.map rgC) ∧ s.env 6 = .nsl ∧ s.env 7 = .bool false ∧ s.env 9 = .osl xB 0 nB ∧ s.env 10 = .nsl ∧ s.env 11 = .bool false ∧ s.env 12 = .int .i64 (1 + 2 * (lyN A : Int)) ∧ s.nt = 119) → K22 s := by
          clear hvA hvB
          rintro ⟨e, H, mm, nt⟩ ⟨h2, hNB, h2n, g0m, g1m, g6m, g7m, g9m, g10m, g11m, g12m, rfl⟩
          simp only [] at g0m g1m g6m g7m g9m g10m g11m g12m
          simp only [] at hNB h2n
          refine hK22 _ ?_
          refine .sq fun K23 hK23 => ?_
          have J23 : ∀ s : St, (∃ K : Int, (0 ≤ K) ∧ s.env 0 = .isl (A.map rgC) ∧ s.env 1 = .isl (B.map rgC) ∧ s.env 6 = .nsl ∧ s.env 7 = .bool false ∧ s.env 10 = .nsl ∧ s.env 11 = .bool false ∧ s.env 12 = .int .i64 K ∧ s.nt = 119) → K23 s := by
           rintro ⟨e, H, mm, nt⟩ ⟨K, hKp, g0a, g1a, g6a, g7a, g10a, g11a, g12a, rfl⟩
           simp only [] at g0a g1a g6a g7a g10a g11a g12a
           refine hK23 _ ?_
           refine .sq fun K24 hK24 => ?_
           refine .sq fun K25 hK25 => ?_
           have negK : decide (K < 0) = false := by simp; omega
           refine .region ?_
           refine .kf 5 eqSegS_nil2n hb34 ?_ (by simp (disch := first|omega|(simp only[ln];omega)) [List.take_succ_cons, List.take_zero, g0a, g1a, g6a, g7a, g10a, g11a, g12a, negK]; rfl) (ha := by simp (disch := first|omega|(simp only[ln];omega)) [idf_Wd', g0a, g1a, g6a, g7a, g10a, g11a, g12a, negK])
           refine .e ?_ (by simp (disch := first|omega|(simp only[ln];omega)) [g0a, g1a, g6a, g7a, g10a, g11a, g12a, negK]; rfl)
           refine hK25 _ ?_
           refine .c (fun h82 => ?_) (fun h82 => ?_)
           ·simp at h82
           ·try simp only[dc]at h82
            refine .skip ?_
            refine hK24 _ ?_
            refine .q ?_
            refine .sq fun K27 hK27 => ?_
            have J27 : ∀ s : St, (s.env 0 = .isl (A.map rgC) ∧ s.env 1 = .isl (B.map rgC) ∧ s.env 6 = .nsl ∧ s.env 7 = .bool false ∧ s.env 10 = .nsl ∧ s.env 11 = .bool false ∧ s.env 13 = .int .i64 1 ∧ s.nt = 119) → K27 s := by
             rintro ⟨e, H, mm, nt⟩ ⟨g0b, g1b, g6b, g7b, g10b, g11b, g13b, rfl⟩
             simp only [] at g0b g1b g6b g7b g10b g11b g13b
             refine hK27 _ ?_
             refine .q ?_
             refine .sq fun K29 hK29 => ?_
             refine .region ?_
             refine .kf 2 (heldSegS_nil2 1 (by omega) (by omega)) hb38 ?_ (by simp (disch := first|omega|(simp only[ln];omega)) [List.take_succ_cons, List.take_zero, g0b, g1b, g6b, g7b, g10b, g11b, g13b]; rfl) (ha := by simp (disch := first|omega|(simp only[ln];omega)) [idf_Wd', g0b, g1b, g6b, g7b, g10b, g11b, g13b])
             refine .e ?_ (by simp (disch := first|omega|(simp only[ln];omega)) [g0b, g1b, g6b, g7b, g10b, g11b, g13b]; rfl)
             refine hK29 _ ?_
             refine .sq fun K30 hK30 => ?_
             refine .q ?_ (by simp (disch := first|omega|(simp only[ln];omega)) [neg4]; rfl)
             refine .c (fun h90 => ?_) (fun h90 => ?_)
             ·simp at h90
             ·try simp only[dc]at h90
              refine .skip ?_
              refine hK30 _ ?_
              refine .sq fun K32 hK32 => ?_
              refine .q ?_ (by simp (disch := first|omega|(simp only[ln];omega)) [g0b, g1b, g6b, g7b, g10b, g11b, g13b]; rfl)
              refine .c (fun h93 => ?_) (fun h93 => ?_)
              ·simp at h93
              ·try simp only[dc]at h93
               refine .skip ?_
               refine hK32 _ ?_
               refine .sq fun K34 hK34 => ?_
               refine .region ?_
               refine .kf 1 tA hb32 ?_ (by simp (disch := first|omega|(simp only[ln];omega)) [List.take_succ_cons, List.take_zero, g0b, g1b, g6b, g7b, g10b, g11b, g13b]; rfl) (ha := by simp (disch := first|omega|(simp only[ln];omega)) [idf_Wd', g0b, g1b, g6b, g7b, g10b, g11b, g13b])
               refine .kf 1 tB hb32 ?_ (by simp (disch := first|omega|(simp only[ln];omega)) [List.take_succ_cons, List.take_zero, g0b, g1b, g6b, g7b, g10b, g11b, g13b]; rfl) (ha := by simp (disch := first|omega|(simp only[ln];omega)) [idf_Wd', g0b, g1b, g6b, g7b, g10b, g11b, g13b])
               refine .f cI hb40 ?_ (ha := by simp (disch := first|omega|(simp only[ln];omega)) [idf_Wd', g0b, g1b, g6b, g7b, g10b, g11b, g13b])
               refine .e ?_ (by simp (disch := first|omega|(simp only[ln];omega)) [g0b, g1b, g6b, g7b, g10b, g11b, g13b]; rfl)
               refine hK34 _ ?_
               refine .sq fun K35 hK35 => ?_
               refine .sq fun K36 hK36 => ?_
               refine .region ?_
               refine .kf 2 eqSegS_nil2n hb34 ?_ (by simp (disch := first|omega|(simp only[ln];omega)) [List.take_succ_cons, List.take_zero, g0b, g1b, g6b, g7b, g10b, g11b, g13b]; rfl) (ha := by simp (disch := first|omega|(simp only[ln];omega)) [idf_Wd', g0b, g1b, g6b, g7b, g10b, g11b, g13b])
               refine .e ?_ (by simp (disch := first|omega|(simp only[ln];omega)) [g0b, g1b, g6b, g7b, g10b, g11b, g13b]; rfl)
               refine hK36 _ ?_
               refine .c (fun h110 => ?_) (fun h110 => ?_)
               ·simp at h110
               ·try simp only[dc]at h110
                refine .skip ?_
                refine hK35 _ ?_
                refine .q ?_
                refine .sq fun K38 hK38 => ?_
                refine .region ?_
                refine .kf 2 (heldSegS_nil2 1 (by omega) (by omega)) hb38 ?_ (by simp (disch := first|omega|(simp only[ln];omega)) [List.take_succ_cons, List.take_zero, g0b, g1b, g6b, g7b, g10b, g11b, g13b]; rfl) (ha := by simp (disch := first|omega|(simp only[ln];omega)) [idf_Wd', g0b, g1b, g6b, g7b, g10b, g11b, g13b])
                refine .e ?_ (by simp (disch := first|omega|(simp only[ln];omega)) [g0b, g1b, g6b, g7b, g10b, g11b, g13b]; rfl)
                refine hK38 _ ?_
                refine .sq fun K39 hK39 => ?_
                refine .q ?_ (by simp (disch := first|omega|(simp only[ln];omega)) [neg4]; rfl)
                refine .c (fun h115 => ?_) (fun h115 => ?_)
                ·simp at h115
                ·try simp only[dc]at h115
                 refine .skip ?_
                 refine hK39 _ ?_
                 refine .sq fun K41 hK41 => ?_
                 refine .q ?_ (by simp (disch := first|omega|(simp only[ln];omega)) [g0b, g1b, g6b, g7b, g10b, g11b, g13b]; rfl)
                 refine .c (fun h118 => ?_) (fun h118 => ?_)
                 ·simp at h118
                 ·try simp only[dc]at h118
                  refine .skip ?_
                  refine hK41 _ ?_
                  refine .q ?_
                  refine .ret ?_
                  exact hK _ _ _ _ trivial ((Fin.m))
            refine .region ?_
            refine .kf 2 (markSegS_nil2 1 (by omega) (by omega)) hb37 ?_ (by simp (disch := first|omega|(simp only[ln];omega)) [List.take_succ_cons, List.take_zero, g0a, g1a, g6a, g7a, g10a, g11a, g12a]; rfl) (ha := by simp (disch := first|omega|(simp only[ln];omega)) [idf_Wd', g0a, g1a, g6a, g7a, g10a, g11a, g12a])
            refine .e ?_ (by simp (disch := first|omega|(simp only[ln];omega)) [g0a, g1a, g6a, g7a, g10a, g11a, g12a]; rfl)
            refine J27 _ ?_
            refine ⟨?_, ?_, ?_, ?_, ?_, ?_, ?_, rfl⟩ <;> first|(simp (disch := omega) [g0a, g1a, g6a, g7a, g10a, g11a, g12a];done)|omega|(simp;done)|(simp;omega)
          refine .region ?_
          refine .k 2 ?_ (by simp (disch := first|omega|(simp only[ln];omega)) [List.take_succ_cons, List.take_zero, g0m, g1m, g6m, g7m, g9m, g10m, g11m, g12m]; rfl)
          refine .a (markRingS_nest B nB xB h1 h2 fB (1 + 2 * (lyN A : Int)) _ _ hnB hNB (by first|omega|(simp;omega)) (by omega) (by omega) (by omega) kyB) hb36 ?_ (ha := by simp (disch := first|omega|(simp only[ln];omega)) [idf_Wd', g0m, g1m, g6m, g7m, g9m, g10m, g11m, g12m])
          rintro _ H2 nx5 ⟨rfl, hfr, hle⟩
          simp only [] at hfr hle
          refine .e ?_ (by simp (disch := first|omega|(simp only[ln];omega)) [g0m, g1m, g6m, g7m, g9m, g10m, g11m, g12m]; rfl)
          refine J23 _ ?_
          refine ⟨(1 + 2 * (lyN A : Int)) + 2 * (lyN B : Int), by omega, ?_, ?_, ?_, ?_, ?_, ?_, ?_, rfl⟩ <;> first|(simp (disch := omega) [g0m, g1m, g6m, g7m, g9m, g10m, g11m, g12m];done)|omega|(simp;done)|(simp;omega)
         refine .region ?_
         refine .k 2 ?_ (by simp (disch := first|omega|(simp only[ln];omega)) [List.take_succ_cons, List.take_zero, g0y, g1y, g6y, g7y, g8y, g9y, g10y, g11y]; rfl)
         refine .a (markRingS_nest A nA xA nx h1 fA 1 _ _ hnA hNA (by first|omega|(simp;omega)) (by omega) (by omega) (by omega) kyA) hb36 ?_ (ha := by simp (disch := first|omega|(simp only[ln];omega)) [idf_Wd', g0y, g1y, g6y, g7y, g8y, g9y, g10y, g11y])
         rintro _ H2 nx4 ⟨rfl, hfr, hle⟩
         simp only [] at hfr hle
         refine .e ?_ (by simp (disch := first|omega|(simp only[ln];omega)) [g0y, g1y, g6y, g7y, g8y, g9y, g10y, g11y]; rfl)
         refine J22 _ ?_
         refine ⟨h2, hNB.mono (Nat.le_refl _) (fun k a1 a2 => by simp only []; exact (hfr k (by omega) (fun q hq e => by have := hNA.fr q hq; omega)).trans (by simp)), by simp only []; omega, ?_, ?_, ?_, ?_, ?_, ?_, ?_, ?_, rfl⟩ <;> first|(simp (disch := omega) [g0y, g1y, g6y, g7y, g8y, g9y, g10y, g11y];done)|omega|(simp;done)|(simp;omega)
     refine .region ?_
     refine .k 2 ?_ (by simp (disch := first|omega|(simp only[ln];omega)) [List.take_succ_cons, List.take_zero, g0x, g1x, g6x, g7x, g8x, g9x]; rfl)
     refine AOPS.lcall 4 (cI) rfl rfl rfl hb40 (by simp (disch := first|omega|(simp only[ln];omega)) [lv, idf_Wd', lv_sp, lv_sg, lv_m2, lv_int, lv_bool, lv_nsl, lv_m4, List.map_map, List.length_map, ↓hvA, ↓hvB, lv_rgC, lv_rgD, hSl, tkT, mkR_len, mkR_tk, g0x, g1x, g6x, g7x, g8x, g9x]) (by simp [atm, atmL]) (by simp (disch := first|omega|(simp only[ln];omega)) [g0x, g1x, g6x, g7x, g8x, g9x]) (by simp) ?_
     simp only [puts_some, updo]
     refine .e ?_ (by simp (disch := first|omega|(simp only[ln];omega)) [g0x, g1x, g6x, g7x, g8x, g9x]; rfl)
     refine J14 _ ?_
     refine ⟨mm, hNA.mono (Nat.le_refl _) (fun k h1 h2 => rfl), hNB.mono (Nat.le_refl _) (fun k h1 h2 => rfl), by have := hNB.ixr; omega, by simp, ?_, ?_, ?_, ?_, ?_, ?_, ?_, ?_, rfl⟩ <;> first|(simp (disch := omega) [g0x, g1x, g6x, g7x, g8x, g9x];done)|omega|(simp;done)|(simp;omega)
    refine .region ?_
    refine .k 1 ?_ (by simp (disch := first|omega|(simp only[ln];omega)) [List.take_succ_cons, List.take_zero, g0, g1, g6, g7, g8]; rfl)
    refine AOPS.lacall 4 (toRingS_nest B nB hnB (by omega) kB3 _) rfl rfl rfl hb32 (by simp (disch := first|omega|(simp only[ln];omega)) [lv, idf_Wd', lv_sp, lv_sg, lv_m2, lv_int, lv_bool, lv_nsl, lv_m4, List.map_map, List.length_map, lv_rgC, lv_rgD, g0, g1, g6, g7, g8]) (fun r H nx' h => by obtain ⟨ix, f, rfl, hN, hw⟩ := h; exact ⟨hN.ixr.1, hw⟩) (by simp (disch := first|omega|(simp only[ln];omega)) [g0, g1, g6, g7, g8]) (by simp) ?_
    rintro _ HN nx2 ⟨ix, f, rfl, hN, hw⟩ hle
    simp only [] at hN hle
    simp only [puts_some, updo]
    refine .e ?_ (by simp (disch := first|omega|(simp only[ln];omega)) [g0, g1, g6, g7, g8]; rfl)
    refine J13 _ ?_
    refine ⟨mm, ix, f, hNA.mono (Nat.le_refl _) (fun k h1 h2 => by simp [hjoin]; omega), hN.mono (Nat.le_refl _) (fun k h1 h2 => by simp [hjoin]; omega), ?_, ?_, ?_, ?_, ?_, ?_, rfl⟩ <;> first|(simp (disch := omega) [g0, g1, g6, g7, g8];done)|omega|(simp;done)|(simp;omega)
   refine .region ?_
   refine .k 1 ?_
   refine AOPS.lacall 4 (toRingS_nest A nA hnA (by omega) kA3 _) rfl rfl rfl hb32 (by simp (disch := first|omega|(simp only[ln];omega)) [lv, idf_Wd', lv_sp, lv_sg, lv_m2, lv_int, lv_bool, lv_nsl, lv_m4, List.map_map, List.length_map, lv_rgC, lv_rgD]) (fun r H nx' h => by obtain ⟨ix, f, rfl, hN, hw⟩ := h; exact ⟨hN.ixr.1, hw⟩) (by simp (disch := first|omega|(simp only[ln];omega))) (by simp) ?_
   rintro _ HN nx2 ⟨ix, f, rfl, hN, hw⟩ hle
   simp only [] at hN hle
   simp only [puts_some, updo]
   refine .e ?_
   refine J12 _ ?_
   refine ⟨ix, f, hN.mono (Nat.le_refl _) (fun k h1 h2 => by simp [hjoin]; omega), ?_, ?_, ?_, ?_, ?_, rfl⟩ <;> first|(simp (disch := omega) [];done)|omega|(simp;done)|(simp;omega)
end
theorem fnExactOverlaid_fc (A B : List (List Sp)) (hA : A.length ≤ 9223372036854775807) (hA2 : ∀ r ∈ A, r.length ≤ 9223372036854775807) (hB : B.length ≤ 9223372036854775807) (hB2 : ∀ r ∈ B, r.length ≤ 9223372036854775807) : FC Tryz.prog 6 [.isl (A.map rgC), .isl (B.map rgC)] (.bool true) := by
  by_cases z : (lyF A).1 = 0 ∧ (lyF B).1 = 0
  · exact fnExactOverlaid_yes A B hA hA2 hB hB2 z.1 z.2
  · exact fnExactOverlaid_no A B hA hA2 hB hB2 z

end Go.Proofs.YtgeecahbahgjbaaGreat
