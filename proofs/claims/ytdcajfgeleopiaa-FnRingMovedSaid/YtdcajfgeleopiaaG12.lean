/- Walks: drawn rings, hurt; like rings. -/
import Derived.Test.YtdcajfgeleopiaaG11

namespace Go.Proofs.Ytdcajfgeleopiaa
open Go Go.RowKit
set_option linter.unusedSimpArgs false
set_option linter.unusedVariables false
set_option maxRecDepth 100000
attribute [local simp] szT2 byT2 agT2 unT2 zoT2 szT3 byT3 agT3 unT3 zoT3 szT41 byT41 agT41 elT41 unT41 zoT41 szT43 byT43 agT43 flT43 fdT43_0 zoT43 szT102 byT102 agT102 flT102 fdT102_0 fdT102_1 zoT102

set_option maxHeartbeats 8000000 in
theorem drawRingFault_ac (l : List Int) (H0 : Heap) (nx : Nat) (dl : Dig 256 l) (hl : l.length ≤ 1048576) (hd : ∀ i q, H0 i = some q → i < nx) : ACall Try.prog 37 [Wd .u8 l] H0 nx (fun r H' nx' => (∃ S : List Sp, r = .agg [.isl (S.map Sp.cells)] ∧ (∀ p ∈ S, Sp.ok p) ∧ S.length ≤ 14) ∧ H' = H0 ∧ nx ≤ nx') := by
 refine .b Try.func37 43 fun K hK => ?_
 refine .q ?_
 refine .sq fun K2 hK2 => ?_
 refine .region ?_
 refine .k 1 ?_
 refine AOPS.old fun hold1 => ?_
 refine .a (open_ac l _ _) hb47 ?_
 rintro _ _ nx1 ⟨rfl, rfl, rfl⟩
 clear hold1
 obtain ⟨id, hid⟩ : ∃ id, id = nx + 1 := ⟨_, rfl⟩
 obtain ⟨p, hH⟩ : ∃ p : Nat, p = 0 := ⟨_, rfl⟩
 have hp : p ≤ l.length := by omega
 simp only []
 rw [← hid]
 refine .e ?_
 refine hK2 _ ?_
 refine .sq fun K3 hK3 => ?_
 refine .region ?_
 refine .k 1 ?_
 refine AOPS.old fun hold1 => ?_
 refine .a (ring_ac l p id _ _ dl hl hp (by simp (disch := omega) [hH]) hold1) hb83 ?_
 rintro _ _ nx2 ⟨S, i5, p2, rfl, hSo, hS3, hS12, hp2, rfl, hi5, hn5⟩
 try simp only [] at hi5 hn5
 clear hold1
 refine .e ?_
 refine hK3 _ ?_
 refine .sq fun K4 hK4 => ?_
 have J4 : ∀ s : St, (∃ i4 : Nat, ∃ i5 : Nat, ∃ m : Nat, ∃ T : List Sp, (∀ p ∈ T, Sp.ok p) ∧ (m ≤ T.length) ∧ (m ≤ 14) ∧ (nx < i4) ∧ (nx < i5) ∧ (hrestr (fun i => decide (i < nx)) s.heap = H0) ∧ s.env 2 = .ptr nx 0 0 ∧ s.env 4 = .ptr i4 0 0 ∧ s.heap nx = some (1, [[.nsl]]) ∧ nx < s.nx ∧ s.heap i4 = some (1, [[.osl i5 0 m]]) ∧ i4 < s.nx ∧ s.heap i5 = some (2, T.map Sp.cells) ∧ i5 < s.nx ∧ s.nt = 43) → K4 s := by
  rintro ⟨e, H, mm, nt⟩ ⟨i4, i5, m, T, hT, hm, hm2, hi4, hi5, hrs, g2, g4, Hz, xz, Ho, xo, Ht, xt, rfl⟩
  simp only [] at g2 g4 Hz xz Ho xo Ht xt
  simp only [] at hrs
  refine hK4 _ ?_
  refine .q ?_ (by simp (disch := first|omega|(simp only[ln];omega)) [g2, g4, Ho, Hz]; rfl)
  refine .ret ?_
  exact hK _ _ _ _ _ trivial ((((Fin.mk (r := .agg [.osl i5 0 m]) (by simp (disch := omega) [aRes, aResL, aRes1, g2])).freeze (id := i5) (z := 2) (es := T.map Sp.cells) (by simp (disch := omega) [Ht])).restr (fun i => decide (i < nx))).cast (r' := .agg [.isl ((T.take m).map Sp.cells)]) (by simp [fz, fzL, hm, List.map_take])) (⟨⟨T.take m, rfl, fun p hp => hT p (List.mem_of_mem_take hp), by simp; omega⟩, by simp (disch := first | omega | (simp; done) | (simp; omega)) [hrestr_in, hrestr_out, hrs, hupd_same], by first | omega | (simp at *; omega)⟩)
 refine .sq fun K6 hK6 => ?_
 refine .region ?_
 refine .k 1 ?_
 refine AOPS.old fun hold1 => ?_
 refine .a (below_ac 8 (by omega) (by omega) l p2 id _ _ dl hl hp2 (by simp (disch := omega) [hH]) hold1) hb63 ?_
 rintro _ _ nx3 ⟨⟨k8, rfl, k80, k81⟩, ⟨p3, hp3, rfl⟩, hnx3⟩
 try simp only [] at hnx3
 clear hold1
 refine .nil ?_
 refine hK6 _ ?_
 refine .block ?_
 refine .q ?_
 refine .c (t := k8 == 0) (fun h11 => ?_) (fun h11 => ?_)
 ·try simp only[dc]at h11
  refine AWP.inv Try.checked.mixed (by kernel_rfl) (fun L s => ∃ q : Nat, ∃ m : Nat, (s.env 2 = .ptr nx 0 0) ∧ (s.env 3 = .ptr id 0 0) ∧ (s.env 4 = .ptr nx2 0 0) ∧ (s.heap id = some (2, [[Wd .u8 l, .int .i64 (q : Int)]])) ∧ (s.heap nx = some (1, [[.nsl]])) ∧ (s.heap nx2 = some (1, [[.osl i5 0 m]])) ∧ (id < s.nx) ∧ (nx < s.nx) ∧ (nx2 < s.nx) ∧ (i5 < s.nx) ∧ (s.nt = 43) ∧ (q ≤ l.length) ∧ (hrestr (fun i => decide (i < nx)) s.heap = H0) ∧ (s.heap i5 = some (2, S.map Sp.cells)) ∧ (m ≤ S.length) ∧ (L 0 = true → s.env 13 = .ptr nx2 0 0) ∧ (L 1 = true → s.env 14 = .osl i5 0 S.length) ∧ (L 2 = true → s.env 15 = .ptr id 0 0) ∧ (L 3 = true → s.env 16 = .ptr nx2 0 0) ∧ (L 4 = true → s.env 17 = .osl i5 0 S.length) ∧ (L 5 = true → s.env 18 = .int .i64 (S.length : Int)) ∧ (L 6 = true → ∃ k : Nat, k < S.length ∧ s.env 19 = .int .i64 (k : Int)) ∧ (L 7 = true → ∃ k : Nat, k ≤ S.length ∧ s.env 20 = .osl i5 0 k) ∧ (L 8 = true → s.env 21 = .ptr nx2 0 0) ∧ (L 9 = false → m = S.length)) (⟨p3, S.length, by first|(simp (disch := omega) [True.intro];done)|omega|(simp;done)|(simp;omega)|(simp (disch := omega) [True.intro] <;> omega), by first|(simp (disch := omega) [True.intro];done)|omega|(simp;done)|(simp;omega)|(simp (disch := omega) [True.intro] <;> omega), by first|(simp (disch := omega) [True.intro];done)|omega|(simp;done)|(simp;omega)|(simp (disch := omega) [True.intro] <;> omega), by first|(simp (disch := omega) [True.intro];done)|omega|(simp;done)|(simp;omega)|(simp (disch := omega) [True.intro] <;> omega), by first|(simp (disch := omega) [True.intro];done)|omega|(simp;done)|(simp;omega)|(simp (disch := omega) [True.intro] <;> omega), by first|(simp (disch := omega) [True.intro];done)|omega|(simp;done)|(simp;omega)|(simp (disch := omega) [True.intro] <;> omega), by first|(simp (disch := omega) [True.intro];done)|omega|(simp;done)|(simp;omega)|(simp (disch := omega) [True.intro] <;> omega), by first|(simp (disch := omega) [True.intro];done)|omega|(simp;done)|(simp;omega)|(simp (disch := omega) [True.intro] <;> omega), by first|(simp (disch := omega) [True.intro];done)|omega|(simp;done)|(simp;omega)|(simp (disch := omega) [True.intro] <;> omega), by first|(simp (disch := omega) [True.intro];done)|omega|(simp;done)|(simp;omega)|(simp (disch := omega) [True.intro] <;> omega), rfl, hp3, by simp (disch := first | omega | (simp; done) | (simp; omega)) [hrestr_in, hrestr_out, hrestr_all hd, hupd_same], by first|(simp (disch := omega) [True.intro];done)|omega|(simp;done)|(simp;omega)|(simp (disch := omega) [True.intro] <;> omega), by first|(simp (disch := omega) [True.intro];done)|omega|(simp;done)|(simp;omega)|(simp (disch := omega) [True.intro] <;> omega), fun h => by simp at h, fun h => by simp at h, fun h => by simp at h, fun h => by simp at h, fun h => by simp at h, fun h => by simp at h, fun h => by simp at h, fun h => by simp at h, fun h => by simp at h, fun _ => by first|(simp (disch := omega) [True.intro];done)|omega|(simp;done)|(simp;omega)|(simp (disch := omega) [True.intro] <;> omega)⟩) ?_ ?_
  ·rintro L ⟨e, H, mm, nt⟩ x o hC ⟨q, m, b2, b3, b4, hr, hz, ho, xr, xz, xo, xt, hnt, hq, hrs, ht, hm, c0, c1, c2, c3, c4, c5, c6, c7, c8, n9⟩ hxx hoo hpp
   simp only [] at b2 b3 b4 hr hz ho xr xz xo xt hnt hq hrs ht hm c0 c1 c2 c3 c4 c5 c6 c7 c8 n9
   subst hnt
   rcases x with _ | _ | _ | _ | _ | _ | _ | _ | _ | _ | x
   ·simp only [List.getElem?_toArray, List.getElem?_cons_zero, List.getElem?_cons_succ, Option.some.injEq] at hoo
    subst hoo
    try simp only [Nat.zero_add, Nat.reduceAdd] at hxx ⊢
    have fn9 := n9 (hC.not hxx (k := 9) rfl (by simp [pre, Region.binds]))
    refine .e ?_ (by simp (disch := first|omega|(simp only[ln];omega)) [if_pos, b2, b3, b4, hr, hz, ho, xr, xz, xo, xt, hq, hrs, ht, hm, fn9, List.length_map]; rfl)
    refine ⟨q, m, ?_, ?_, ?_, ?_, ?_, ?_, ?_, ?_, ?_, ?_, rfl, ?_, ?_, ?_, ?_, fun _ => ?_, ?_, ?_, ?_, ?_, ?_, ?_, ?_, ?_, ?_⟩ <;> first|(simp (disch := omega) [b2, b3, b4, hr, hz, ho, xr, xz, xo, xt, hq, hrs, ht, hm, fn9, List.length_map];done)|omega|(simp;omega)|(simp [upL];assumption)|(simp (disch := omega) [b2, b3, b4, hr, hz, ho, xr, xz, xo, xt, hq, hrs, ht, hm, fn9, List.length_map, upL];done)|(simp (disch := omega) [b2, b3, b4, hr, hz, ho, xr, xz, xo, xt, hq, hrs, ht, hm, fn9, List.length_map, upL];assumption)|(simp (disch := first | omega | (simp; done) | (simp; omega)) [hrestr_in, hrestr_out, hrs, hupd_same];done)
   ·simp only [List.getElem?_toArray, List.getElem?_cons_zero, List.getElem?_cons_succ, Option.some.injEq] at hoo
    subst hoo
    try simp only [Nat.zero_add, Nat.reduceAdd] at hxx ⊢
    have l0 : L 0 = true := hpp 0 (by simp [pre, Region.binds])
    have fc0 := c0 l0
    have fn9 := n9 (hC.not hxx (k := 9) rfl (by simp [pre, Region.binds]))
    refine .e ?_ (by simp (disch := first|omega|(simp only[ln];omega)) [if_pos, b2, b3, b4, hr, hz, ho, xr, xz, xo, xt, hq, hrs, ht, hm, fc0, fn9, List.length_map]; rfl)
    refine ⟨q, m, ?_, ?_, ?_, ?_, ?_, ?_, ?_, ?_, ?_, ?_, rfl, ?_, ?_, ?_, ?_, ?_, fun _ => ?_, ?_, ?_, ?_, ?_, ?_, ?_, ?_, ?_⟩ <;> first|(simp (disch := omega) [b2, b3, b4, hr, hz, ho, xr, xz, xo, xt, hq, hrs, ht, hm, fc0, fn9, List.length_map];done)|omega|(simp;omega)|(simp [upL];assumption)|(simp (disch := omega) [b2, b3, b4, hr, hz, ho, xr, xz, xo, xt, hq, hrs, ht, hm, fc0, fn9, List.length_map, upL];done)|(simp (disch := omega) [b2, b3, b4, hr, hz, ho, xr, xz, xo, xt, hq, hrs, ht, hm, fc0, fn9, List.length_map, upL];assumption)|(simp (disch := first | omega | (simp; done) | (simp; omega)) [hrestr_in, hrestr_out, hrs, hupd_same];done)
   ·simp only [List.getElem?_toArray, List.getElem?_cons_zero, List.getElem?_cons_succ, Option.some.injEq] at hoo
    subst hoo
    try simp only [Nat.zero_add, Nat.reduceAdd] at hxx ⊢
    have fn9 := n9 (hC.not hxx (k := 9) rfl (by simp [pre, Region.binds]))
    refine .e ?_ (by simp (disch := first|omega|(simp only[ln];omega)) [if_pos, b2, b3, b4, hr, hz, ho, xr, xz, xo, xt, hq, hrs, ht, hm, fn9, List.length_map]; rfl)
    refine ⟨q, m, ?_, ?_, ?_, ?_, ?_, ?_, ?_, ?_, ?_, ?_, rfl, ?_, ?_, ?_, ?_, ?_, ?_, fun _ => ?_, ?_, ?_, ?_, ?_, ?_, ?_, ?_⟩ <;> first|(simp (disch := omega) [b2, b3, b4, hr, hz, ho, xr, xz, xo, xt, hq, hrs, ht, hm, fn9, List.length_map];done)|omega|(simp;omega)|(simp [upL];assumption)|(simp (disch := omega) [b2, b3, b4, hr, hz, ho, xr, xz, xo, xt, hq, hrs, ht, hm, fn9, List.length_map, upL];done)|(simp (disch := omega) [b2, b3, b4, hr, hz, ho, xr, xz, xo, xt, hq, hrs, ht, hm, fn9, List.length_map, upL];assumption)|(simp (disch := first | omega | (simp; done) | (simp; omega)) [hrestr_in, hrestr_out, hrs, hupd_same];done)
   ·simp only [List.getElem?_toArray, List.getElem?_cons_zero, List.getElem?_cons_succ, Option.some.injEq] at hoo
    subst hoo
    try simp only [Nat.zero_add, Nat.reduceAdd] at hxx ⊢
    have fn9 := n9 (hC.not hxx (k := 9) rfl (by simp [pre, Region.binds]))
    refine .e ?_ (by simp (disch := first|omega|(simp only[ln];omega)) [if_pos, b2, b3, b4, hr, hz, ho, xr, xz, xo, xt, hq, hrs, ht, hm, fn9, List.length_map]; rfl)
    refine ⟨q, m, ?_, ?_, ?_, ?_, ?_, ?_, ?_, ?_, ?_, ?_, rfl, ?_, ?_, ?_, ?_, ?_, ?_, ?_, fun _ => ?_, ?_, ?_, ?_, ?_, ?_, ?_⟩ <;> first|(simp (disch := omega) [b2, b3, b4, hr, hz, ho, xr, xz, xo, xt, hq, hrs, ht, hm, fn9, List.length_map];done)|omega|(simp;omega)|(simp [upL];assumption)|(simp (disch := omega) [b2, b3, b4, hr, hz, ho, xr, xz, xo, xt, hq, hrs, ht, hm, fn9, List.length_map, upL];done)|(simp (disch := omega) [b2, b3, b4, hr, hz, ho, xr, xz, xo, xt, hq, hrs, ht, hm, fn9, List.length_map, upL];assumption)|(simp (disch := first | omega | (simp; done) | (simp; omega)) [hrestr_in, hrestr_out, hrs, hupd_same];done)
   ·simp only [List.getElem?_toArray, List.getElem?_cons_zero, List.getElem?_cons_succ, Option.some.injEq] at hoo
    subst hoo
    try simp only [Nat.zero_add, Nat.reduceAdd] at hxx ⊢
    have l3 : L 3 = true := hpp 3 (by simp [pre, Region.binds])
    have fc3 := c3 l3
    have fn9 := n9 (hC.not hxx (k := 9) rfl (by simp [pre, Region.binds]))
    refine .e ?_ (by simp (disch := first|omega|(simp only[ln];omega)) [if_pos, b2, b3, b4, hr, hz, ho, xr, xz, xo, xt, hq, hrs, ht, hm, fc3, fn9, List.length_map]; rfl)
    refine ⟨q, m, ?_, ?_, ?_, ?_, ?_, ?_, ?_, ?_, ?_, ?_, rfl, ?_, ?_, ?_, ?_, ?_, ?_, ?_, ?_, fun _ => ?_, ?_, ?_, ?_, ?_, ?_⟩ <;> first|(simp (disch := omega) [b2, b3, b4, hr, hz, ho, xr, xz, xo, xt, hq, hrs, ht, hm, fc3, fn9, List.length_map];done)|omega|(simp;omega)|(simp [upL];assumption)|(simp (disch := omega) [b2, b3, b4, hr, hz, ho, xr, xz, xo, xt, hq, hrs, ht, hm, fc3, fn9, List.length_map, upL];done)|(simp (disch := omega) [b2, b3, b4, hr, hz, ho, xr, xz, xo, xt, hq, hrs, ht, hm, fc3, fn9, List.length_map, upL];assumption)|(simp (disch := first | omega | (simp; done) | (simp; omega)) [hrestr_in, hrestr_out, hrs, hupd_same];done)
   ·simp only [List.getElem?_toArray, List.getElem?_cons_zero, List.getElem?_cons_succ, Option.some.injEq] at hoo
    subst hoo
    try simp only [Nat.zero_add, Nat.reduceAdd] at hxx ⊢
    have l4 : L 4 = true := hpp 4 (by simp [pre, Region.binds])
    have fc4 := c4 l4
    have fn9 := n9 (hC.not hxx (k := 9) rfl (by simp [pre, Region.binds]))
    refine .e ?_ (by simp (disch := first|omega|(simp only[ln];omega)) [if_pos, b2, b3, b4, hr, hz, ho, xr, xz, xo, xt, hq, hrs, ht, hm, fc4, fn9, List.length_map]; rfl)
    refine ⟨q, m, ?_, ?_, ?_, ?_, ?_, ?_, ?_, ?_, ?_, ?_, rfl, ?_, ?_, ?_, ?_, ?_, ?_, ?_, ?_, ?_, fun _ => ?_, ?_, ?_, ?_, ?_⟩ <;> first|(simp (disch := omega) [b2, b3, b4, hr, hz, ho, xr, xz, xo, xt, hq, hrs, ht, hm, fc4, fn9, List.length_map];done)|omega|(simp;omega)|(simp [upL];assumption)|(simp (disch := omega) [b2, b3, b4, hr, hz, ho, xr, xz, xo, xt, hq, hrs, ht, hm, fc4, fn9, List.length_map, upL];done)|(simp (disch := omega) [b2, b3, b4, hr, hz, ho, xr, xz, xo, xt, hq, hrs, ht, hm, fc4, fn9, List.length_map, upL];assumption)|(simp (disch := first | omega | (simp; done) | (simp; omega)) [hrestr_in, hrestr_out, hrs, hupd_same];done)
   ·simp only [List.getElem?_toArray, List.getElem?_cons_zero, List.getElem?_cons_succ, Option.some.injEq] at hoo
    subst hoo
    try simp only [Nat.zero_add, Nat.reduceAdd] at hxx ⊢
    have l2 : L 2 = true := hpp 2 (by simp [pre, Region.binds])
    have fc2 := c2 l2
    have l5 : L 5 = true := hpp 5 (by simp [pre, Region.binds])
    have fc5 := c5 l5
    have fn9 := n9 (hC.not hxx (k := 9) rfl (by simp [pre, Region.binds]))
    refine AOPS.old fun hold6 => ?_
    refine .a (below_ac (S.length : Int) (by omega) (by omega) l q id _ _ dl hl hq (by simp (disch := omega) [hr]) hold6) hb63 ?_ (ha := by simp (disch := first|omega|(simp only[ln];omega)) [idf_Wd', if_pos, b2, b3, b4, hr, hz, ho, xr, xz, xo, xt, hq, hrs, ht, hm, fc2, fc5, fn9, List.length_map])
    rintro _ _ nx4 ⟨⟨k, rfl, k0, k1⟩, ⟨p4, hp4, rfl⟩, hnx4⟩
    try simp only [] at hnx4
    clear hold6
    obtain ⟨K, rfl⟩ := Int.eq_ofNat_of_zero_le k0
    have hK : K < S.length := by omega
    refine AOPS.nil ?_
    refine ⟨p4, m, ?_, ?_, ?_, ?_, ?_, ?_, ?_, ?_, ?_, ?_, rfl, hp4, ?_, ?_, ?_, ?_, ?_, ?_, ?_, ?_, ?_, fun _ => ⟨K, by omega, by simp⟩, ?_, ?_, ?_⟩ <;> first|(simp (disch := omega) [b2, b3, b4, hr, hz, ho, xr, xz, xo, xt, hq, hrs, ht, hm, fc2, fc5, fn9, List.length_map];done)|omega|(simp;omega)|(simp [upL];assumption)|(simp (disch := omega) [b2, b3, b4, hr, hz, ho, xr, xz, xo, xt, hq, hrs, ht, hm, fc2, fc5, fn9, List.length_map, upL];done)|(simp (disch := omega) [b2, b3, b4, hr, hz, ho, xr, xz, xo, xt, hq, hrs, ht, hm, fc2, fc5, fn9, List.length_map, upL];assumption)|(simp (disch := first | omega | (simp; done) | (simp; omega)) [hrestr_in, hrestr_out, hrs, hupd_same];done)
   ·simp only [List.getElem?_toArray, List.getElem?_cons_zero, List.getElem?_cons_succ, Option.some.injEq] at hoo
    subst hoo
    try simp only [Nat.zero_add, Nat.reduceAdd] at hxx ⊢
    have l1 : L 1 = true := hpp 1 (by simp [pre, Region.binds])
    have fc1 := c1 l1
    have l6 : L 6 = true := hpp 6 (by simp [pre, Region.binds])
    have fc6 := c6 l6
    have fn9 := n9 (hC.not hxx (k := 9) rfl (by simp [pre, Region.binds]))
    obtain ⟨K, hK, fc6⟩ := fc6
    refine .e ?_ (by simp (disch := first|omega|(simp only[ln];omega)) [if_pos, b2, b3, b4, hr, hz, ho, xr, xz, xo, xt, hq, hrs, ht, hm, fc1, fc6, fn9, List.length_map]; rfl)
    refine ⟨q, m, ?_, ?_, ?_, ?_, ?_, ?_, ?_, ?_, ?_, ?_, rfl, ?_, ?_, ?_, ?_, ?_, ?_, ?_, ?_, ?_, ?_, ?_, fun _ => ⟨K, by omega, by simp⟩, ?_, ?_⟩ <;> first|(simp (disch := omega) [b2, b3, b4, hr, hz, ho, xr, xz, xo, xt, hq, hrs, ht, hm, fc1, fc6, fn9, List.length_map];done)|omega|(simp;omega)|(simp [upL];assumption)|(simp (disch := omega) [b2, b3, b4, hr, hz, ho, xr, xz, xo, xt, hq, hrs, ht, hm, fc1, fc6, fn9, List.length_map, upL];done)|(simp (disch := omega) [b2, b3, b4, hr, hz, ho, xr, xz, xo, xt, hq, hrs, ht, hm, fc1, fc6, fn9, List.length_map, upL];assumption)|(simp (disch := first | omega | (simp; done) | (simp; omega)) [hrestr_in, hrestr_out, hrs, hupd_same];done)
   ·simp only [List.getElem?_toArray, List.getElem?_cons_zero, List.getElem?_cons_succ, Option.some.injEq] at hoo
    subst hoo
    try simp only [Nat.zero_add, Nat.reduceAdd] at hxx ⊢
    have l0 : L 0 = true := hpp 0 (by simp [pre, Region.binds])
    have fc0 := c0 l0
    have l1 : L 1 = true := hpp 1 (by simp [pre, Region.binds])
    have fc1 := c1 l1
    have l2 : L 2 = true := hpp 2 (by simp [pre, Region.binds])
    have fc2 := c2 l2
    have l3 : L 3 = true := hpp 3 (by simp [pre, Region.binds])
    have fc3 := c3 l3
    have l4 : L 4 = true := hpp 4 (by simp [pre, Region.binds])
    have fc4 := c4 l4
    have l5 : L 5 = true := hpp 5 (by simp [pre, Region.binds])
    have fc5 := c5 l5
    have l6 : L 6 = true := hpp 6 (by simp [pre, Region.binds])
    have fc6 := c6 l6
    have l7 : L 7 = true := hpp 7 (by simp [pre, Region.binds])
    have fc7 := c7 l7
    have fn9 := n9 (hC.not hxx (k := 9) rfl (by simp [pre, Region.binds]))
    refine .e ?_ (by simp (disch := first|omega|(simp only[ln];omega)) [if_pos, b2, b3, b4, hr, hz, ho, xr, xz, xo, xt, hq, hrs, ht, hm, fc0, fc1, fc2, fc3, fc4, fc5, fc6, fc7, fn9, List.length_map]; rfl)
    refine ⟨q, m, ?_, ?_, ?_, ?_, ?_, ?_, ?_, ?_, ?_, ?_, rfl, ?_, ?_, ?_, ?_, ?_, ?_, ?_, ?_, ?_, ?_, ?_, ?_, fun _ => ?_, ?_⟩ <;> first|(simp (disch := omega) [b2, b3, b4, hr, hz, ho, xr, xz, xo, xt, hq, hrs, ht, hm, fc0, fc1, fc2, fc3, fc4, fc5, fc6, fc7, fn9, List.length_map];done)|omega|(simp;omega)|(simp [upL];assumption)|(simp (disch := omega) [b2, b3, b4, hr, hz, ho, xr, xz, xo, xt, hq, hrs, ht, hm, fc0, fc1, fc2, fc3, fc4, fc5, fc6, fc7, fn9, List.length_map, upL];done)|(simp (disch := omega) [b2, b3, b4, hr, hz, ho, xr, xz, xo, xt, hq, hrs, ht, hm, fc0, fc1, fc2, fc3, fc4, fc5, fc6, fc7, fn9, List.length_map, upL];assumption)|(simp (disch := first | omega | (simp; done) | (simp; omega)) [hrestr_in, hrestr_out, hrs, hupd_same];done)
   ·simp only [List.getElem?_toArray, List.getElem?_cons_zero, List.getElem?_cons_succ, Option.some.injEq] at hoo
    subst hoo
    try simp only [Nat.zero_add, Nat.reduceAdd] at hxx ⊢
    have l0 : L 0 = true := hpp 0 (by simp [pre, Region.binds])
    have fc0 := c0 l0
    have l1 : L 1 = true := hpp 1 (by simp [pre, Region.binds])
    have fc1 := c1 l1
    have l2 : L 2 = true := hpp 2 (by simp [pre, Region.binds])
    have fc2 := c2 l2
    have l3 : L 3 = true := hpp 3 (by simp [pre, Region.binds])
    have fc3 := c3 l3
    have l4 : L 4 = true := hpp 4 (by simp [pre, Region.binds])
    have fc4 := c4 l4
    have l5 : L 5 = true := hpp 5 (by simp [pre, Region.binds])
    have fc5 := c5 l5
    have l6 : L 6 = true := hpp 6 (by simp [pre, Region.binds])
    have fc6 := c6 l6
    have l7 : L 7 = true := hpp 7 (by simp [pre, Region.binds])
    have fc7 := c7 l7
    have l8 : L 8 = true := hpp 8 (by simp [pre, Region.binds])
    have fc8 := c8 l8
    have fn9 := n9 hxx
    obtain ⟨K, hK, fc7⟩ := fc7
    refine .e ?_ (by simp (disch := first|omega|(simp only[ln];omega)) [if_pos, b2, b3, b4, hr, hz, ho, xr, xz, xo, xt, hq, hrs, ht, hm, fc0, fc1, fc2, fc3, fc4, fc5, fc6, fc7, fc8, fn9, List.length_map]; rfl)
    refine ⟨q, K, ?_, ?_, ?_, ?_, ?_, ?_, ?_, ?_, ?_, ?_, rfl, ?_, ?_, ?_, by omega, ?_, ?_, ?_, ?_, ?_, ?_, ?_, ?_, ?_, fun h => by simp [upL] at h⟩ <;> first|(simp (disch := omega) [b2, b3, b4, hr, hz, ho, xr, xz, xo, xt, hq, hrs, ht, hm, fc0, fc1, fc2, fc3, fc4, fc5, fc6, fc7, fc8, fn9, List.length_map];done)|omega|(simp;omega)|(simp [upL];assumption)|(simp (disch := omega) [b2, b3, b4, hr, hz, ho, xr, xz, xo, xt, hq, hrs, ht, hm, fc0, fc1, fc2, fc3, fc4, fc5, fc6, fc7, fc8, fn9, List.length_map, upL];done)|(simp (disch := omega) [b2, b3, b4, hr, hz, ho, xr, xz, xo, xt, hq, hrs, ht, hm, fc0, fc1, fc2, fc3, fc4, fc5, fc6, fc7, fc8, fn9, List.length_map, upL];assumption)|(simp (disch := first | omega | (simp; done) | (simp; omega)) [hrestr_in, hrestr_out, hrs, hupd_same];done)
   · simp at hoo
  ·rintro L ⟨e, H, mm, nt⟩ hL ⟨q, m, b2, b3, b4, hr, hz, ho, xr, xz, xo, xt, hnt, hq, hrs, ht, hm, c0, c1, c2, c3, c4, c5, c6, c7, c8, n9⟩
   replace c0 := c0 (hL 0 (by simp))
   replace c1 := c1 (hL 1 (by simp))
   replace c2 := c2 (hL 2 (by simp))
   replace c3 := c3 (hL 3 (by simp))
   replace c4 := c4 (hL 4 (by simp))
   replace c5 := c5 (hL 5 (by simp))
   replace c6 := c6 (hL 6 (by simp))
   replace c7 := c7 (hL 7 (by simp))
   replace c8 := c8 (hL 8 (by simp))
   clear n9
   simp only [] at b2 b3 b4 hr hz ho xr xz xo xt hnt hq hrs ht hm c0 c1 c2 c3 c4 c5 c6 c7 c8
   subst hnt
   refine J4 _ ?_
   refine ⟨nx2, i5, m, S, hSo, by first | omega | (simp; omega), by first | omega | (simp; omega), by first | omega | (simp; omega), by first | omega | (simp; omega), by simp (disch := first | omega | (simp; done) | (simp; omega)) [hrestr_in, hrestr_out, hrs, hupd_same], ?_, ?_, ?_, ?_, ?_, ?_, ?_, ?_, rfl⟩ <;> first|(simp (disch := omega) [List.map_append, Sp.cells, b2, b4, hz, ho, ht];done)|omega|(simp;done)|(simp;omega)
 ·try simp only[dc]at h11
  refine .q ?_
  refine .c (t := k8 == 1) (fun h22 => ?_) (fun h22 => ?_)
  ·try simp only[dc]at h22
   have tkS : List.take S.length (List.map Sp.cells S) = List.map Sp.cells S := List.take_of_length_le (by rw [List.length_map]; omega)
   refine AWP.inv Try.checked.mixed (by kernel_rfl) (fun L s => ∃ q : Nat, (s.env 2 = .ptr nx 0 0) ∧ (s.env 3 = .ptr id 0 0) ∧ (s.env 4 = .ptr nx2 0 0) ∧ (s.heap id = some (2, [[Wd .u8 l, .int .i64 (q : Int)]])) ∧ (s.heap nx = some (1, [[.nsl]])) ∧ (id < s.nx) ∧ (nx < s.nx) ∧ (nx2 < s.nx) ∧ (s.nt = 43) ∧ (q ≤ l.length) ∧ (hrestr (fun i => decide (i < nx)) s.heap = H0) ∧ (L 0 = true → s.env 24 = .ptr nx2 0 0) ∧ (L 1 = true → s.env 25 = .osl i5 0 S.length) ∧ (L 2 = true → s.env 26 = .ptr id 0 0) ∧ (L 3 = true → ∃ ax : Int, -6 ≤ ax ∧ ax ≤ 6 ∧ ∃ ay : Int, -6 ≤ ay ∧ ay ≤ 6 ∧ s.env 27 = .agg [.int .i64 ax, .int .i64 ay]) ∧ (L 4 = true → ∃ U : List Sp, U.length = 1 ∧ (∀ p ∈ U, Sp.ok p) ∧ s.env 28 = .isl (U.map Sp.cells)) ∧ (L 5 = true → ∃ (T : List Sp) (i7 : Nat), T.length = (S.length + 1) ∧ (∀ p ∈ T, Sp.ok p) ∧ nx2 < i7 ∧ i7 < s.nx ∧ s.env 29 = .osl i7 0 (S.length + 1) ∧ s.heap i7 = some (2, T.map Sp.cells)) ∧ (L 6 = true → s.env 30 = .ptr nx2 0 0) ∧ (L 7 = true → ∃ (T : List Sp) (i7 : Nat), T.length = (S.length + 1) ∧ (∀ p ∈ T, Sp.ok p) ∧ nx2 < i7 ∧ i7 < s.nx ∧ s.heap nx2 = some (1, [[.osl i7 0 (S.length + 1)]]) ∧ s.heap i7 = some (2, T.map Sp.cells)) ∧ (L 5 = false → s.heap i5 = some (2, S.map Sp.cells)) ∧ (L 7 = false → s.heap nx2 = some (1, [[.osl i5 0 S.length]]))) (⟨p3, by first|(simp (disch := omega) [True.intro];done)|omega|(simp;done)|(simp;omega)|(simp (disch := omega) [True.intro] <;> omega), by first|(simp (disch := omega) [True.intro];done)|omega|(simp;done)|(simp;omega)|(simp (disch := omega) [True.intro] <;> omega), by first|(simp (disch := omega) [True.intro];done)|omega|(simp;done)|(simp;omega)|(simp (disch := omega) [True.intro] <;> omega), by first|(simp (disch := omega) [True.intro];done)|omega|(simp;done)|(simp;omega)|(simp (disch := omega) [True.intro] <;> omega), by first|(simp (disch := omega) [True.intro];done)|omega|(simp;done)|(simp;omega)|(simp (disch := omega) [True.intro] <;> omega), by first|(simp (disch := omega) [True.intro];done)|omega|(simp;done)|(simp;omega)|(simp (disch := omega) [True.intro] <;> omega), by first|(simp (disch := omega) [True.intro];done)|omega|(simp;done)|(simp;omega)|(simp (disch := omega) [True.intro] <;> omega), by first|(simp (disch := omega) [True.intro];done)|omega|(simp;done)|(simp;omega)|(simp (disch := omega) [True.intro] <;> omega), rfl, hp3, by simp (disch := first | omega | (simp; done) | (simp; omega)) [hrestr_in, hrestr_out, hrestr_all hd, hupd_same], fun h => by simp at h, fun h => by simp at h, fun h => by simp at h, fun h => by simp at h, fun h => by simp at h, fun h => by simp at h, fun h => by simp at h, fun h => by simp at h, fun _ => by first|(simp (disch := omega) [True.intro];done)|omega|(simp;done)|(simp;omega)|(simp (disch := omega) [True.intro] <;> omega), fun _ => by first|(simp (disch := omega) [True.intro];done)|omega|(simp;done)|(simp;omega)|(simp (disch := omega) [True.intro] <;> omega)⟩) ?_ ?_
   ·rintro L ⟨e, H, mm, nt⟩ x o hC ⟨q, b2, b3, b4, hr, hz, xr, xz, xo, hnt, hq, hrs, c0, c1, c2, c3, c4, c5, c6, c7, n5, n7⟩ hxx hoo hpp
    simp only [] at b2 b3 b4 hr hz xr xz xo hnt hq hrs c0 c1 c2 c3 c4 c5 c6 c7 n5 n7
    subst hnt
    rcases x with _ | _ | _ | _ | _ | _ | _ | _ | x
    ·simp only [List.getElem?_toArray, List.getElem?_cons_zero, List.getElem?_cons_succ, Option.some.injEq] at hoo
     subst hoo
     try simp only [Nat.zero_add, Nat.reduceAdd] at hxx ⊢
     have fn7 := n7 (hC.not hxx (k := 7) rfl (by simp [pre, Region.binds]))
     refine .e ?_ (by simp (disch := first|omega|(simp only[ln];omega)) [b2, b3, b4, hr, hz, xr, xz, xo, hq, hrs, fn7, List.length_map, tkS]; rfl)
     refine ⟨q, ?_, ?_, ?_, ?_, ?_, ?_, ?_, ?_, rfl, ?_, ?_, fun _ => ?_, ?_, ?_, ?_, ?_, fun h => by rw [upL_ne L (by decide)] at h; obtain ⟨T, i7, k0, k1, k2, k3, k4, k5⟩ := c5 h; exact ⟨T, i7, by first|exact k0|(simp (disch := omega) [k0];done)|omega|(simp;omega), by first|exact k1|(simp (disch := omega) [k1];done)|omega|(simp;omega), by first|exact k2|(simp (disch := omega) [k2];done)|omega|(simp;omega), by first|exact k3|(simp (disch := omega) [k3];done)|omega|(simp;omega), by first|exact k4|(simp (disch := omega) [k4];done)|omega|(simp;omega), by first|exact k5|(simp (disch := omega) [k5];done)|omega|(simp;omega)⟩, ?_, fun h => by rw [upL_ne L (by decide)] at h; obtain ⟨T, i7, k0, k1, k2, k3, k4, k5⟩ := c7 h; exact ⟨T, i7, by first|exact k0|(simp (disch := omega) [k0];done)|omega|(simp;omega), by first|exact k1|(simp (disch := omega) [k1];done)|omega|(simp;omega), by first|exact k2|(simp (disch := omega) [k2];done)|omega|(simp;omega), by first|exact k3|(simp (disch := omega) [k3];done)|omega|(simp;omega), by first|exact k4|(simp (disch := omega) [k4];done)|omega|(simp;omega), by first|exact k5|(simp (disch := omega) [k5];done)|omega|(simp;omega)⟩, ?_, ?_⟩ <;> first|(simp (disch := omega) [b2, b3, b4, hr, hz, xr, xz, xo, hq, hrs, fn7, List.length_map, tkS];done)|omega|(simp;omega)|(simp [upL];assumption)|(simp (disch := omega) [b2, b3, b4, hr, hz, xr, xz, xo, hq, hrs, fn7, List.length_map, tkS, upL];done)|(simp (disch := omega) [b2, b3, b4, hr, hz, xr, xz, xo, hq, hrs, fn7, List.length_map, tkS, upL];assumption)|(simp (disch := first | omega | (simp; done) | (simp; omega)) [hrestr_in, hrestr_out, hrs, hupd_same];done)
    ·simp only [List.getElem?_toArray, List.getElem?_cons_zero, List.getElem?_cons_succ, Option.some.injEq] at hoo
     subst hoo
     try simp only [Nat.zero_add, Nat.reduceAdd] at hxx ⊢
     have l0 : L 0 = true := hpp 0 (by simp [pre, Region.binds])
     have fc0 := c0 l0
     have fn5 := n5 (hC.not hxx (k := 5) rfl (by simp [pre, Region.binds]))
     have fn7 := n7 (hC.not hxx (k := 7) rfl (by simp [pre, Region.binds]))
     refine .e ?_ (by simp (disch := first|omega|(simp only[ln];omega)) [b2, b3, b4, hr, hz, xr, xz, xo, hq, hrs, fc0, fn5, fn7, List.length_map, tkS]; rfl)
     refine ⟨q, ?_, ?_, ?_, ?_, ?_, ?_, ?_, ?_, rfl, ?_, ?_, ?_, fun _ => ?_, ?_, ?_, ?_, fun h => by rw [upL_ne L (by decide)] at h; obtain ⟨T, i7, k0, k1, k2, k3, k4, k5⟩ := c5 h; exact ⟨T, i7, by first|exact k0|(simp (disch := omega) [k0];done)|omega|(simp;omega), by first|exact k1|(simp (disch := omega) [k1];done)|omega|(simp;omega), by first|exact k2|(simp (disch := omega) [k2];done)|omega|(simp;omega), by first|exact k3|(simp (disch := omega) [k3];done)|omega|(simp;omega), by first|exact k4|(simp (disch := omega) [k4];done)|omega|(simp;omega), by first|exact k5|(simp (disch := omega) [k5];done)|omega|(simp;omega)⟩, ?_, fun h => by rw [upL_ne L (by decide)] at h; obtain ⟨T, i7, k0, k1, k2, k3, k4, k5⟩ := c7 h; exact ⟨T, i7, by first|exact k0|(simp (disch := omega) [k0];done)|omega|(simp;omega), by first|exact k1|(simp (disch := omega) [k1];done)|omega|(simp;omega), by first|exact k2|(simp (disch := omega) [k2];done)|omega|(simp;omega), by first|exact k3|(simp (disch := omega) [k3];done)|omega|(simp;omega), by first|exact k4|(simp (disch := omega) [k4];done)|omega|(simp;omega), by first|exact k5|(simp (disch := omega) [k5];done)|omega|(simp;omega)⟩, ?_, ?_⟩ <;> first|(simp (disch := omega) [b2, b3, b4, hr, hz, xr, xz, xo, hq, hrs, fc0, fn5, fn7, List.length_map, tkS];done)|omega|(simp;omega)|(simp [upL];assumption)|(simp (disch := omega) [b2, b3, b4, hr, hz, xr, xz, xo, hq, hrs, fc0, fn5, fn7, List.length_map, tkS, upL];done)|(simp (disch := omega) [b2, b3, b4, hr, hz, xr, xz, xo, hq, hrs, fc0, fn5, fn7, List.length_map, tkS, upL];assumption)|(simp (disch := first | omega | (simp; done) | (simp; omega)) [hrestr_in, hrestr_out, hrs, hupd_same];done)
    ·simp only [List.getElem?_toArray, List.getElem?_cons_zero, List.getElem?_cons_succ, Option.some.injEq] at hoo
     subst hoo
     try simp only [Nat.zero_add, Nat.reduceAdd] at hxx ⊢
     have fn7 := n7 (hC.not hxx (k := 7) rfl (by simp [pre, Region.binds]))
     refine .e ?_ (by simp (disch := first|omega|(simp only[ln];omega)) [b2, b3, b4, hr, hz, xr, xz, xo, hq, hrs, fn7, List.length_map, tkS]; rfl)
     refine ⟨q, ?_, ?_, ?_, ?_, ?_, ?_, ?_, ?_, rfl, ?_, ?_, ?_, ?_, fun _ => ?_, ?_, ?_, fun h => by rw [upL_ne L (by decide)] at h; obtain ⟨T, i7, k0, k1, k2, k3, k4, k5⟩ := c5 h; exact ⟨T, i7, by first|exact k0|(simp (disch := omega) [k0];done)|omega|(simp;omega), by first|exact k1|(simp (disch := omega) [k1];done)|omega|(simp;omega), by first|exact k2|(simp (disch := omega) [k2];done)|omega|(simp;omega), by first|exact k3|(simp (disch := omega) [k3];done)|omega|(simp;omega), by first|exact k4|(simp (disch := omega) [k4];done)|omega|(simp;omega), by first|exact k5|(simp (disch := omega) [k5];done)|omega|(simp;omega)⟩, ?_, fun h => by rw [upL_ne L (by decide)] at h; obtain ⟨T, i7, k0, k1, k2, k3, k4, k5⟩ := c7 h; exact ⟨T, i7, by first|exact k0|(simp (disch := omega) [k0];done)|omega|(simp;omega), by first|exact k1|(simp (disch := omega) [k1];done)|omega|(simp;omega), by first|exact k2|(simp (disch := omega) [k2];done)|omega|(simp;omega), by first|exact k3|(simp (disch := omega) [k3];done)|omega|(simp;omega), by first|exact k4|(simp (disch := omega) [k4];done)|omega|(simp;omega), by first|exact k5|(simp (disch := omega) [k5];done)|omega|(simp;omega)⟩, ?_, ?_⟩ <;> first|(simp (disch := omega) [b2, b3, b4, hr, hz, xr, xz, xo, hq, hrs, fn7, List.length_map, tkS];done)|omega|(simp;omega)|(simp [upL];assumption)|(simp (disch := omega) [b2, b3, b4, hr, hz, xr, xz, xo, hq, hrs, fn7, List.length_map, tkS, upL];done)|(simp (disch := omega) [b2, b3, b4, hr, hz, xr, xz, xo, hq, hrs, fn7, List.length_map, tkS, upL];assumption)|(simp (disch := first | omega | (simp; done) | (simp; omega)) [hrestr_in, hrestr_out, hrs, hupd_same];done)
    ·simp only [List.getElem?_toArray, List.getElem?_cons_zero, List.getElem?_cons_succ, Option.some.injEq] at hoo
     subst hoo
     try simp only [Nat.zero_add, Nat.reduceAdd] at hxx ⊢
     have l2 : L 2 = true := hpp 2 (by simp [pre, Region.binds])
     have fc2 := c2 l2
     have fn5 := n5 (hC.not hxx (k := 5) rfl (by simp [pre, Region.binds]))
     have fn7 := n7 (hC.not hxx (k := 7) rfl (by simp [pre, Region.binds]))
     refine AOPS.old fun hold3 => ?_
     refine .a (spot_ac l q id _ _ dl hl hq (by simp (disch := omega) [hr]) hold3) hb84 ?_ (ha := by simp (disch := first|omega|(simp only[ln];omega)) [idf_Wd', b2, b3, b4, hr, hz, xr, xz, xo, hq, hrs, fc2, fn5, fn7, List.length_map, tkS])
     rintro _ _ nx4 ⟨⟨ax, ay, rfl, ax0, ax1, ay0, ay1⟩, ⟨pz, hpz, rfl⟩, hnx4⟩
     try simp only [] at hnx4
     clear hold3
     refine AOPS.nil ?_
     refine ⟨pz, ?_, ?_, ?_, ?_, ?_, ?_, ?_, ?_, rfl, hpz, ?_, ?_, ?_, ?_, fun _ => ⟨ax, ax0, ax1, ay, ay0, ay1, by simp⟩, ?_, fun h => by rw [upL_ne L (by decide)] at h; obtain ⟨T, i7, k0, k1, k2, k3, k4, k5⟩ := c5 h; exact ⟨T, i7, by first|exact k0|(simp (disch := omega) [k0];done)|omega|(simp;omega), by first|exact k1|(simp (disch := omega) [k1];done)|omega|(simp;omega), by first|exact k2|(simp (disch := omega) [k2];done)|omega|(simp;omega), by first|exact k3|(simp (disch := omega) [k3];done)|omega|(simp;omega), by first|exact k4|(simp (disch := omega) [k4];done)|omega|(simp;omega), by first|exact k5|(simp (disch := omega) [k5];done)|omega|(simp;omega)⟩, ?_, fun h => by rw [upL_ne L (by decide)] at h; obtain ⟨T, i7, k0, k1, k2, k3, k4, k5⟩ := c7 h; exact ⟨T, i7, by first|exact k0|(simp (disch := omega) [k0];done)|omega|(simp;omega), by first|exact k1|(simp (disch := omega) [k1];done)|omega|(simp;omega), by first|exact k2|(simp (disch := omega) [k2];done)|omega|(simp;omega), by first|exact k3|(simp (disch := omega) [k3];done)|omega|(simp;omega), by first|exact k4|(simp (disch := omega) [k4];done)|omega|(simp;omega), by first|exact k5|(simp (disch := omega) [k5];done)|omega|(simp;omega)⟩, ?_, ?_⟩ <;> first|(simp (disch := omega) [b2, b3, b4, hr, hz, xr, xz, xo, hq, hrs, fc2, fn5, fn7, List.length_map, tkS];done)|omega|(simp;omega)|(simp [upL];assumption)|(simp (disch := omega) [b2, b3, b4, hr, hz, xr, xz, xo, hq, hrs, fc2, fn5, fn7, List.length_map, tkS, upL];done)|(simp (disch := omega) [b2, b3, b4, hr, hz, xr, xz, xo, hq, hrs, fc2, fn5, fn7, List.length_map, tkS, upL];assumption)|(simp (disch := first | omega | (simp; done) | (simp; omega)) [hrestr_in, hrestr_out, hrs, hupd_same];done)
    ·simp only [List.getElem?_toArray, List.getElem?_cons_zero, List.getElem?_cons_succ, Option.some.injEq] at hoo
     subst hoo
     try simp only [Nat.zero_add, Nat.reduceAdd] at hxx ⊢
     have l3 : L 3 = true := hpp 3 (by simp [pre, Region.binds])
     have fc3 := c3 l3
     have fn5 := n5 (hC.not hxx (k := 5) rfl (by simp [pre, Region.binds]))
     have fn7 := n7 (hC.not hxx (k := 7) rfl (by simp [pre, Region.binds]))
     obtain ⟨x0, xa0, xb0, y0, ya0, yb0, fc3⟩ := fc3
     refine .k 1 ?_ (by simp (disch := first|omega|(simp only[ln];omega)) [List.take_succ_cons, List.take_zero, b2, b3, b4, hr, hz, xr, xz, xo, hq, hrs, fc3, fn5, fn7, List.length_map, tkS]; rfl)
     refine AOPS.frz1 28 mm 2 ([⟨x0, y0⟩].map Sp.cells) (.isl ([⟨x0, y0⟩].map Sp.cells)) (by simp [Sp.cells]) (by simp [Sp.cells]) ?_
     refine AOPS.nil ?_
     refine ⟨q, ?_, ?_, ?_, ?_, ?_, ?_, ?_, ?_, rfl, ?_, ?_, ?_, ?_, ?_, ?_, fun _ => ⟨[⟨x0, y0⟩], rfl, by simp [Sp.ok, I64]; omega, by simp⟩, fun h => by rw [upL_ne L (by decide)] at h; obtain ⟨T, i7, k0, k1, k2, k3, k4, k5⟩ := c5 h; exact ⟨T, i7, by first|exact k0|(simp (disch := omega) [k0];done)|omega|(simp;omega), by first|exact k1|(simp (disch := omega) [k1];done)|omega|(simp;omega), by first|exact k2|(simp (disch := omega) [k2];done)|omega|(simp;omega), by first|exact k3|(simp (disch := omega) [k3];done)|omega|(simp;omega), by first|exact k4|(simp (disch := omega) [k4];done)|omega|(simp;omega), by first|exact k5|(simp (disch := omega) [k5];done)|omega|(simp;omega)⟩, ?_, fun h => by rw [upL_ne L (by decide)] at h; obtain ⟨T, i7, k0, k1, k2, k3, k4, k5⟩ := c7 h; exact ⟨T, i7, by first|exact k0|(simp (disch := omega) [k0];done)|omega|(simp;omega), by first|exact k1|(simp (disch := omega) [k1];done)|omega|(simp;omega), by first|exact k2|(simp (disch := omega) [k2];done)|omega|(simp;omega), by first|exact k3|(simp (disch := omega) [k3];done)|omega|(simp;omega), by first|exact k4|(simp (disch := omega) [k4];done)|omega|(simp;omega), by first|exact k5|(simp (disch := omega) [k5];done)|omega|(simp;omega)⟩, ?_, ?_⟩ <;> first|(simp (disch := omega) [b2, b3, b4, hr, hz, xr, xz, xo, hq, hrs, fc3, fn5, fn7, List.length_map, tkS];done)|omega|(simp;omega)|(simp [upL];assumption)|(simp (disch := omega) [b2, b3, b4, hr, hz, xr, xz, xo, hq, hrs, fc3, fn5, fn7, List.length_map, tkS, upL];done)|(simp (disch := omega) [b2, b3, b4, hr, hz, xr, xz, xo, hq, hrs, fc3, fn5, fn7, List.length_map, tkS, upL];assumption)|(simp (disch := first | omega | (simp; done) | (simp; omega)) [hrestr_in, hrestr_out, hrs, hupd_same];done)
    ·simp only [List.getElem?_toArray, List.getElem?_cons_zero, List.getElem?_cons_succ, Option.some.injEq] at hoo
     subst hoo
     try simp only [Nat.zero_add, Nat.reduceAdd] at hxx ⊢
     have l1 : L 1 = true := hpp 1 (by simp [pre, Region.binds])
     have fc1 := c1 l1
     have l3 : L 3 = true := hpp 3 (by simp [pre, Region.binds])
     have fc3 := c3 l3
     have l4 : L 4 = true := hpp 4 (by simp [pre, Region.binds])
     have fc4 := c4 l4
     have fn5 := n5 hxx
     have fn7 := n7 (hC.not hxx (k := 7) rfl (by simp [pre, Region.binds]))
     obtain ⟨U, hU1, hU2, fc4⟩ := fc4
     have hc1 : (S.length + 1) * 16 ≤ 140737488355328 := by omega
     have hc2 : S.length + 1 ≤ 9223372036854775807 := by omega
     refine AOPS.opapp (by simp (disch := first|omega|(simp only[ln];omega)) [opApp.eq_def, aSrc_isl, aSrc_osl, aSrc_nsl, aSrc_int, wd_app, wd_app2, if_pos, wd_append, wd_take, wd_drop, List.nil_append, b2, b3, b4, hr, hz, xr, xz, xo, hq, hrs, fc1, fc3, fc4, fn5, fn7, List.length_map, tkS, hU1, hc1, hc2, plnS3, src_Wd' (P := Try.prog) elT41]; first | rfl | exact ⟨rfl, rfl⟩ | exact ⟨rfl, rfl, rfl⟩) (by simp) (by simp) ?_
     simp only [puts_some, hdrop]
     refine AOPS.nil ?_
     refine ⟨q, ?_, ?_, ?_, ?_, ?_, ?_, ?_, ?_, rfl, ?_, ?_, ?_, ?_, ?_, ?_, ?_, fun _ => ⟨S ++ U, mm, by simp [hU1], fun p hp => (List.mem_append.1 hp).elim (hSo p) (hU2 p), by omega, by simp, by simp [hU1], by simp⟩, ?_, fun h => by rw [upL_ne L (by decide)] at h; obtain ⟨T, i7, k0, k1, k2, k3, k4, k5⟩ := c7 h; exact ⟨T, i7, by first|exact k0|(simp (disch := omega) [k0];done)|omega|(simp;omega), by first|exact k1|(simp (disch := omega) [k1];done)|omega|(simp;omega), by first|exact k2|(simp (disch := omega) [k2];done)|omega|(simp;omega), by first|exact k3|(simp (disch := omega) [k3];done)|omega|(simp;omega), by first|exact k4|(simp (disch := omega) [k4];done)|omega|(simp;omega), by first|exact k5|(simp (disch := omega) [k5];done)|omega|(simp;omega)⟩, fun h => by simp [upL] at h, ?_⟩ <;> first|(simp (disch := omega) [b2, b3, b4, hr, hz, xr, xz, xo, hq, hrs, fc1, fc3, fc4, fn5, fn7, List.length_map, tkS];done)|omega|(simp;omega)|(simp [upL];assumption)|(simp (disch := omega) [b2, b3, b4, hr, hz, xr, xz, xo, hq, hrs, fc1, fc3, fc4, fn5, fn7, List.length_map, tkS, upL];done)|(simp (disch := omega) [b2, b3, b4, hr, hz, xr, xz, xo, hq, hrs, fc1, fc3, fc4, fn5, fn7, List.length_map, tkS, upL];assumption)|(simp (disch := first | omega | (simp; done) | (simp; omega)) [hrestr_in, hrestr_out, hrs, hupd_same];done)
    ·simp only [List.getElem?_toArray, List.getElem?_cons_zero, List.getElem?_cons_succ, Option.some.injEq] at hoo
     subst hoo
     try simp only [Nat.zero_add, Nat.reduceAdd] at hxx ⊢
     have l0 : L 0 = true := hpp 0 (by simp [pre, Region.binds])
     have fc0 := c0 l0
     have l1 : L 1 = true := hpp 1 (by simp [pre, Region.binds])
     have fc1 := c1 l1
     have l2 : L 2 = true := hpp 2 (by simp [pre, Region.binds])
     have fc2 := c2 l2
     have l3 : L 3 = true := hpp 3 (by simp [pre, Region.binds])
     have fc3 := c3 l3
     have l4 : L 4 = true := hpp 4 (by simp [pre, Region.binds])
     have fc4 := c4 l4
     have l5 : L 5 = true := hpp 5 (by simp [pre, Region.binds])
     have fc5 := c5 l5
     have fn7 := n7 (hC.not hxx (k := 7) rfl (by simp [pre, Region.binds]))
     refine .e ?_ (by simp (disch := first|omega|(simp only[ln];omega)) [b2, b3, b4, hr, hz, xr, xz, xo, hq, hrs, fc0, fc1, fc2, fc3, fc4, fc5, fn7, List.length_map, tkS]; rfl)
     refine ⟨q, ?_, ?_, ?_, ?_, ?_, ?_, ?_, ?_, rfl, ?_, ?_, ?_, ?_, ?_, ?_, ?_, fun h => by rw [upL_ne L (by decide)] at h; obtain ⟨T, i7, k0, k1, k2, k3, k4, k5⟩ := c5 h; exact ⟨T, i7, by first|exact k0|(simp (disch := omega) [k0];done)|omega|(simp;omega), by first|exact k1|(simp (disch := omega) [k1];done)|omega|(simp;omega), by first|exact k2|(simp (disch := omega) [k2];done)|omega|(simp;omega), by first|exact k3|(simp (disch := omega) [k3];done)|omega|(simp;omega), by first|exact k4|(simp (disch := omega) [k4];done)|omega|(simp;omega), by first|exact k5|(simp (disch := omega) [k5];done)|omega|(simp;omega)⟩, fun _ => ?_, fun h => by rw [upL_ne L (by decide)] at h; obtain ⟨T, i7, k0, k1, k2, k3, k4, k5⟩ := c7 h; exact ⟨T, i7, by first|exact k0|(simp (disch := omega) [k0];done)|omega|(simp;omega), by first|exact k1|(simp (disch := omega) [k1];done)|omega|(simp;omega), by first|exact k2|(simp (disch := omega) [k2];done)|omega|(simp;omega), by first|exact k3|(simp (disch := omega) [k3];done)|omega|(simp;omega), by first|exact k4|(simp (disch := omega) [k4];done)|omega|(simp;omega), by first|exact k5|(simp (disch := omega) [k5];done)|omega|(simp;omega)⟩, ?_, ?_⟩ <;> first|(simp (disch := omega) [b2, b3, b4, hr, hz, xr, xz, xo, hq, hrs, fc0, fc1, fc2, fc3, fc4, fc5, fn7, List.length_map, tkS];done)|omega|(simp;omega)|(simp [upL];assumption)|(simp (disch := omega) [b2, b3, b4, hr, hz, xr, xz, xo, hq, hrs, fc0, fc1, fc2, fc3, fc4, fc5, fn7, List.length_map, tkS, upL];done)|(simp (disch := omega) [b2, b3, b4, hr, hz, xr, xz, xo, hq, hrs, fc0, fc1, fc2, fc3, fc4, fc5, fn7, List.length_map, tkS, upL];assumption)|(simp (disch := first | omega | (simp; done) | (simp; omega)) [hrestr_in, hrestr_out, hrs, hupd_same];done)
    ·simp only [List.getElem?_toArray, List.getElem?_cons_zero, List.getElem?_cons_succ, Option.some.injEq] at hoo
     subst hoo
     try simp only [Nat.zero_add, Nat.reduceAdd] at hxx ⊢
     have l0 : L 0 = true := hpp 0 (by simp [pre, Region.binds])
     have fc0 := c0 l0
     have l1 : L 1 = true := hpp 1 (by simp [pre, Region.binds])
     have fc1 := c1 l1
     have l2 : L 2 = true := hpp 2 (by simp [pre, Region.binds])
     have fc2 := c2 l2
     have l3 : L 3 = true := hpp 3 (by simp [pre, Region.binds])
     have fc3 := c3 l3
     have l4 : L 4 = true := hpp 4 (by simp [pre, Region.binds])
     have fc4 := c4 l4
     have l5 : L 5 = true := hpp 5 (by simp [pre, Region.binds])
     have fc5 := c5 l5
     have l6 : L 6 = true := hpp 6 (by simp [pre, Region.binds])
     have fc6 := c6 l6
     have fn7 := n7 hxx
     obtain ⟨T, i7, t1, t2, t3, t4, fc5, t5⟩ := fc5
     refine .e ?_ (by simp (disch := first|omega|(simp only[ln];omega)) [b2, b3, b4, hr, hz, xr, xz, xo, hq, hrs, fc0, fc1, fc2, fc3, fc4, fc5, fc6, fn7, List.length_map, tkS]; rfl)
     refine ⟨q, ?_, ?_, ?_, ?_, ?_, ?_, ?_, ?_, rfl, ?_, ?_, ?_, ?_, ?_, ?_, ?_, fun h => by rw [upL_ne L (by decide)] at h; obtain ⟨T, i7, k0, k1, k2, k3, k4, k5⟩ := c5 h; exact ⟨T, i7, by first|exact k0|(simp (disch := omega) [k0];done)|omega|(simp;omega), by first|exact k1|(simp (disch := omega) [k1];done)|omega|(simp;omega), by first|exact k2|(simp (disch := omega) [k2];done)|omega|(simp;omega), by first|exact k3|(simp (disch := omega) [k3];done)|omega|(simp;omega), by first|exact k4|(simp (disch := omega) [k4];done)|omega|(simp;omega), by first|exact k5|(simp (disch := omega) [k5];done)|omega|(simp;omega)⟩, ?_, fun _ => ⟨T, i7, t1, t2, t3, t4, by simp, by simp (disch := omega) [t5]⟩, ?_, fun h => by simp [upL] at h⟩ <;> first|(simp (disch := omega) [b2, b3, b4, hr, hz, xr, xz, xo, hq, hrs, fc0, fc1, fc2, fc3, fc4, fc5, fc6, fn7, List.length_map, tkS];done)|omega|(simp;omega)|(simp [upL];assumption)|(simp (disch := omega) [b2, b3, b4, hr, hz, xr, xz, xo, hq, hrs, fc0, fc1, fc2, fc3, fc4, fc5, fc6, fn7, List.length_map, tkS, upL];done)|(simp (disch := omega) [b2, b3, b4, hr, hz, xr, xz, xo, hq, hrs, fc0, fc1, fc2, fc3, fc4, fc5, fc6, fn7, List.length_map, tkS, upL];assumption)|(simp (disch := first | omega | (simp; done) | (simp; omega)) [hrestr_in, hrestr_out, hrs, hupd_same];done)
    · simp at hoo
   ·rintro L ⟨e, H, mm, nt⟩ hL ⟨q, b2, b3, b4, hr, hz, xr, xz, xo, hnt, hq, hrs, c0, c1, c2, c3, c4, c5, c6, c7, n5, n7⟩
    replace c0 := c0 (hL 0 (by simp))
    replace c1 := c1 (hL 1 (by simp))
    replace c2 := c2 (hL 2 (by simp))
    replace c3 := c3 (hL 3 (by simp))
    replace c4 := c4 (hL 4 (by simp))
    replace c5 := c5 (hL 5 (by simp))
    replace c6 := c6 (hL 6 (by simp))
    replace c7 := c7 (hL 7 (by simp))
    clear n5 n7
    simp only [] at b2 b3 b4 hr hz xr xz xo hnt hq hrs c0 c1 c2 c3 c4 c5 c6 c7
    subst hnt
    refine J4 _ ?_
    obtain ⟨T, i7, t1, t2, t3, t4, t5, t6⟩ := c7
    refine ⟨nx2, i7, T.length, T, t2, by first | omega | (simp; omega), by first | omega | (simp; omega), by first | omega | (simp; omega), by first | omega | (simp; omega), by simp (disch := first | omega | (simp; done) | (simp; omega)) [hrestr_in, hrestr_out, hrs, hupd_same], ?_, ?_, ?_, ?_, ?_, ?_, ?_, ?_, rfl⟩ <;> first|(simp (disch := omega) [List.map_append, Sp.cells, b2, b4, hz, t1, t5, t6];done)|omega|(simp;done)|(simp;omega)
  ·try simp only[dc]at h22
   refine .q ?_
   refine .c (t := k8 == 2) (fun h31 => ?_) (fun h31 => ?_)
   ·try simp only[dc]at h31
    have tkS : List.take S.length (List.map Sp.cells S) = List.map Sp.cells S := List.take_of_length_le (by rw [List.length_map]; omega)
    refine AWP.inv Try.checked.mixed (by kernel_rfl) (fun L s => ∃ q : Nat, (s.env 2 = .ptr nx 0 0) ∧ (s.env 3 = .ptr id 0 0) ∧ (s.env 4 = .ptr nx2 0 0) ∧ (s.heap id = some (2, [[Wd .u8 l, .int .i64 (q : Int)]])) ∧ (s.heap nx = some (1, [[.nsl]])) ∧ (id < s.nx) ∧ (nx < s.nx) ∧ (nx2 < s.nx) ∧ (s.nt = 43) ∧ (q ≤ l.length) ∧ (hrestr (fun i => decide (i < nx)) s.heap = H0) ∧ (L 0 = true → s.env 33 = .ptr nx2 0 0) ∧ (L 1 = true → s.env 34 = .osl i5 0 S.length) ∧ (L 2 = true → s.env 35 = .ptr id 0 0) ∧ (L 3 = true → ∃ ax : Int, -6 ≤ ax ∧ ax ≤ 6 ∧ ∃ ay : Int, -6 ≤ ay ∧ ay ≤ 6 ∧ s.env 36 = .agg [.int .i64 ax, .int .i64 ay]) ∧ (L 4 = true → s.env 37 = .ptr id 0 0) ∧ (L 5 = true → ∃ ax : Int, -6 ≤ ax ∧ ax ≤ 6 ∧ ∃ ay : Int, -6 ≤ ay ∧ ay ≤ 6 ∧ s.env 38 = .agg [.int .i64 ax, .int .i64 ay]) ∧ (L 6 = true → ∃ U : List Sp, U.length = 2 ∧ (∀ p ∈ U, Sp.ok p) ∧ s.env 39 = .isl (U.map Sp.cells)) ∧ (L 7 = true → ∃ (T : List Sp) (i7 : Nat), T.length = (S.length + 2) ∧ (∀ p ∈ T, Sp.ok p) ∧ nx2 < i7 ∧ i7 < s.nx ∧ s.env 40 = .osl i7 0 (S.length + 2) ∧ s.heap i7 = some (2, T.map Sp.cells)) ∧ (L 8 = true → s.env 41 = .ptr nx2 0 0) ∧ (L 9 = true → ∃ (T : List Sp) (i7 : Nat), T.length = (S.length + 2) ∧ (∀ p ∈ T, Sp.ok p) ∧ nx2 < i7 ∧ i7 < s.nx ∧ s.heap nx2 = some (1, [[.osl i7 0 (S.length + 2)]]) ∧ s.heap i7 = some (2, T.map Sp.cells)) ∧ (L 7 = false → s.heap i5 = some (2, S.map Sp.cells)) ∧ (L 9 = false → s.heap nx2 = some (1, [[.osl i5 0 S.length]]))) (⟨p3, by first|(simp (disch := omega) [True.intro];done)|omega|(simp;done)|(simp;omega)|(simp (disch := omega) [True.intro] <;> omega), by first|(simp (disch := omega) [True.intro];done)|omega|(simp;done)|(simp;omega)|(simp (disch := omega) [True.intro] <;> omega), by first|(simp (disch := omega) [True.intro];done)|omega|(simp;done)|(simp;omega)|(simp (disch := omega) [True.intro] <;> omega), by first|(simp (disch := omega) [True.intro];done)|omega|(simp;done)|(simp;omega)|(simp (disch := omega) [True.intro] <;> omega), by first|(simp (disch := omega) [True.intro];done)|omega|(simp;done)|(simp;omega)|(simp (disch := omega) [True.intro] <;> omega), by first|(simp (disch := omega) [True.intro];done)|omega|(simp;done)|(simp;omega)|(simp (disch := omega) [True.intro] <;> omega), by first|(simp (disch := omega) [True.intro];done)|omega|(simp;done)|(simp;omega)|(simp (disch := omega) [True.intro] <;> omega), by first|(simp (disch := omega) [True.intro];done)|omega|(simp;done)|(simp;omega)|(simp (disch := omega) [True.intro] <;> omega), rfl, hp3, by simp (disch := first | omega | (simp; done) | (simp; omega)) [hrestr_in, hrestr_out, hrestr_all hd, hupd_same], fun h => by simp at h, fun h => by simp at h, fun h => by simp at h, fun h => by simp at h, fun h => by simp at h, fun h => by simp at h, fun h => by simp at h, fun h => by simp at h, fun h => by simp at h, fun h => by simp at h, fun _ => by first|(simp (disch := omega) [True.intro];done)|omega|(simp;done)|(simp;omega)|(simp (disch := omega) [True.intro] <;> omega), fun _ => by first|(simp (disch := omega) [True.intro];done)|omega|(simp;done)|(simp;omega)|(simp (disch := omega) [True.intro] <;> omega)⟩) ?_ ?_
    ·rintro L ⟨e, H, mm, nt⟩ x o hC ⟨q, b2, b3, b4, hr, hz, xr, xz, xo, hnt, hq, hrs, c0, c1, c2, c3, c4, c5, c6, c7, c8, c9, n5, n7⟩ hxx hoo hpp
     simp only [] at b2 b3 b4 hr hz xr xz xo hnt hq hrs c0 c1 c2 c3 c4 c5 c6 c7 c8 c9 n5 n7
     subst hnt
     rcases x with _ | _ | _ | _ | _ | _ | _ | _ | _ | _ | x
     ·simp only [List.getElem?_toArray, List.getElem?_cons_zero, List.getElem?_cons_succ, Option.some.injEq] at hoo
      subst hoo
      try simp only [Nat.zero_add, Nat.reduceAdd] at hxx ⊢
      have fn7 := n7 (hC.not hxx (k := 9) rfl (by simp [pre, Region.binds]))
      refine .e ?_ (by simp (disch := first|omega|(simp only[ln];omega)) [b2, b3, b4, hr, hz, xr, xz, xo, hq, hrs, fn7, List.length_map, tkS]; rfl)
      refine ⟨q, ?_, ?_, ?_, ?_, ?_, ?_, ?_, ?_, rfl, ?_, ?_, fun _ => ?_, ?_, ?_, ?_, ?_, ?_, ?_, fun h => by rw [upL_ne L (by decide)] at h; obtain ⟨T, i7, k0, k1, k2, k3, k4, k5⟩ := c7 h; exact ⟨T, i7, by first|exact k0|(simp (disch := omega) [k0];done)|omega|(simp;omega), by first|exact k1|(simp (disch := omega) [k1];done)|omega|(simp;omega), by first|exact k2|(simp (disch := omega) [k2];done)|omega|(simp;omega), by first|exact k3|(simp (disch := omega) [k3];done)|omega|(simp;omega), by first|exact k4|(simp (disch := omega) [k4];done)|omega|(simp;omega), by first|exact k5|(simp (disch := omega) [k5];done)|omega|(simp;omega)⟩, ?_, fun h => by rw [upL_ne L (by decide)] at h; obtain ⟨T, i7, k0, k1, k2, k3, k4, k5⟩ := c9 h; exact ⟨T, i7, by first|exact k0|(simp (disch := omega) [k0];done)|omega|(simp;omega), by first|exact k1|(simp (disch := omega) [k1];done)|omega|(simp;omega), by first|exact k2|(simp (disch := omega) [k2];done)|omega|(simp;omega), by first|exact k3|(simp (disch := omega) [k3];done)|omega|(simp;omega), by first|exact k4|(simp (disch := omega) [k4];done)|omega|(simp;omega), by first|exact k5|(simp (disch := omega) [k5];done)|omega|(simp;omega)⟩, ?_, ?_⟩ <;> first|(simp (disch := omega) [b2, b3, b4, hr, hz, xr, xz, xo, hq, hrs, fn7, List.length_map, tkS];done)|omega|(simp;omega)|(simp [upL];assumption)|(simp (disch := omega) [b2, b3, b4, hr, hz, xr, xz, xo, hq, hrs, fn7, List.length_map, tkS, upL];done)|(simp (disch := omega) [b2, b3, b4, hr, hz, xr, xz, xo, hq, hrs, fn7, List.length_map, tkS, upL];assumption)|(simp (disch := first | omega | (simp; done) | (simp; omega)) [hrestr_in, hrestr_out, hrs, hupd_same];done)
     ·simp only [List.getElem?_toArray, List.getElem?_cons_zero, List.getElem?_cons_succ, Option.some.injEq] at hoo
      subst hoo
      try simp only [Nat.zero_add, Nat.reduceAdd] at hxx ⊢
      have l0 : L 0 = true := hpp 0 (by simp [pre, Region.binds])
      have fc0 := c0 l0
      have fn5 := n5 (hC.not hxx (k := 7) rfl (by simp [pre, Region.binds]))
      have fn7 := n7 (hC.not hxx (k := 9) rfl (by simp [pre, Region.binds]))
      refine .e ?_ (by simp (disch := first|omega|(simp only[ln];omega)) [b2, b3, b4, hr, hz, xr, xz, xo, hq, hrs, fc0, fn5, fn7, List.length_map, tkS]; rfl)
      refine ⟨q, ?_, ?_, ?_, ?_, ?_, ?_, ?_, ?_, rfl, ?_, ?_, ?_, fun _ => ?_, ?_, ?_, ?_, ?_, ?_, fun h => by rw [upL_ne L (by decide)] at h; obtain ⟨T, i7, k0, k1, k2, k3, k4, k5⟩ := c7 h; exact ⟨T, i7, by first|exact k0|(simp (disch := omega) [k0];done)|omega|(simp;omega), by first|exact k1|(simp (disch := omega) [k1];done)|omega|(simp;omega), by first|exact k2|(simp (disch := omega) [k2];done)|omega|(simp;omega), by first|exact k3|(simp (disch := omega) [k3];done)|omega|(simp;omega), by first|exact k4|(simp (disch := omega) [k4];done)|omega|(simp;omega), by first|exact k5|(simp (disch := omega) [k5];done)|omega|(simp;omega)⟩, ?_, fun h => by rw [upL_ne L (by decide)] at h; obtain ⟨T, i7, k0, k1, k2, k3, k4, k5⟩ := c9 h; exact ⟨T, i7, by first|exact k0|(simp (disch := omega) [k0];done)|omega|(simp;omega), by first|exact k1|(simp (disch := omega) [k1];done)|omega|(simp;omega), by first|exact k2|(simp (disch := omega) [k2];done)|omega|(simp;omega), by first|exact k3|(simp (disch := omega) [k3];done)|omega|(simp;omega), by first|exact k4|(simp (disch := omega) [k4];done)|omega|(simp;omega), by first|exact k5|(simp (disch := omega) [k5];done)|omega|(simp;omega)⟩, ?_, ?_⟩ <;> first|(simp (disch := omega) [b2, b3, b4, hr, hz, xr, xz, xo, hq, hrs, fc0, fn5, fn7, List.length_map, tkS];done)|omega|(simp;omega)|(simp [upL];assumption)|(simp (disch := omega) [b2, b3, b4, hr, hz, xr, xz, xo, hq, hrs, fc0, fn5, fn7, List.length_map, tkS, upL];done)|(simp (disch := omega) [b2, b3, b4, hr, hz, xr, xz, xo, hq, hrs, fc0, fn5, fn7, List.length_map, tkS, upL];assumption)|(simp (disch := first | omega | (simp; done) | (simp; omega)) [hrestr_in, hrestr_out, hrs, hupd_same];done)
     ·simp only [List.getElem?_toArray, List.getElem?_cons_zero, List.getElem?_cons_succ, Option.some.injEq] at hoo
      subst hoo
      try simp only [Nat.zero_add, Nat.reduceAdd] at hxx ⊢
      have fn7 := n7 (hC.not hxx (k := 9) rfl (by simp [pre, Region.binds]))
      refine .e ?_ (by simp (disch := first|omega|(simp only[ln];omega)) [b2, b3, b4, hr, hz, xr, xz, xo, hq, hrs, fn7, List.length_map, tkS]; rfl)
      refine ⟨q, ?_, ?_, ?_, ?_, ?_, ?_, ?_, ?_, rfl, ?_, ?_, ?_, ?_, fun _ => ?_, ?_, ?_, ?_, ?_, fun h => by rw [upL_ne L (by decide)] at h; obtain ⟨T, i7, k0, k1, k2, k3, k4, k5⟩ := c7 h; exact ⟨T, i7, by first|exact k0|(simp (disch := omega) [k0];done)|omega|(simp;omega), by first|exact k1|(simp (disch := omega) [k1];done)|omega|(simp;omega), by first|exact k2|(simp (disch := omega) [k2];done)|omega|(simp;omega), by first|exact k3|(simp (disch := omega) [k3];done)|omega|(simp;omega), by first|exact k4|(simp (disch := omega) [k4];done)|omega|(simp;omega), by first|exact k5|(simp (disch := omega) [k5];done)|omega|(simp;omega)⟩, ?_, fun h => by rw [upL_ne L (by decide)] at h; obtain ⟨T, i7, k0, k1, k2, k3, k4, k5⟩ := c9 h; exact ⟨T, i7, by first|exact k0|(simp (disch := omega) [k0];done)|omega|(simp;omega), by first|exact k1|(simp (disch := omega) [k1];done)|omega|(simp;omega), by first|exact k2|(simp (disch := omega) [k2];done)|omega|(simp;omega), by first|exact k3|(simp (disch := omega) [k3];done)|omega|(simp;omega), by first|exact k4|(simp (disch := omega) [k4];done)|omega|(simp;omega), by first|exact k5|(simp (disch := omega) [k5];done)|omega|(simp;omega)⟩, ?_, ?_⟩ <;> first|(simp (disch := omega) [b2, b3, b4, hr, hz, xr, xz, xo, hq, hrs, fn7, List.length_map, tkS];done)|omega|(simp;omega)|(simp [upL];assumption)|(simp (disch := omega) [b2, b3, b4, hr, hz, xr, xz, xo, hq, hrs, fn7, List.length_map, tkS, upL];done)|(simp (disch := omega) [b2, b3, b4, hr, hz, xr, xz, xo, hq, hrs, fn7, List.length_map, tkS, upL];assumption)|(simp (disch := first | omega | (simp; done) | (simp; omega)) [hrestr_in, hrestr_out, hrs, hupd_same];done)
     ·simp only [List.getElem?_toArray, List.getElem?_cons_zero, List.getElem?_cons_succ, Option.some.injEq] at hoo
      subst hoo
      try simp only [Nat.zero_add, Nat.reduceAdd] at hxx ⊢
      have l2 : L 2 = true := hpp 2 (by simp [pre, Region.binds])
      have fc2 := c2 l2
      have fn7 := n7 (hC.not hxx (k := 9) rfl (by simp [pre, Region.binds]))
      refine AOPS.old fun hold3 => ?_
      refine .a (spot_ac l q id _ _ dl hl hq (by simp (disch := omega) [hr]) hold3) hb84 ?_ (ha := by simp (disch := first|omega|(simp only[ln];omega)) [idf_Wd', b2, b3, b4, hr, hz, xr, xz, xo, hq, hrs, fc2, fn7, List.length_map, tkS])
      rintro _ _ nx4 ⟨⟨ax, ay, rfl, ax0, ax1, ay0, ay1⟩, ⟨pz, hpz, rfl⟩, hnx4⟩
      try simp only [] at hnx4
      clear hold3
      refine AOPS.nil ?_
      refine ⟨pz, ?_, ?_, ?_, ?_, ?_, ?_, ?_, ?_, rfl, hpz, ?_, ?_, ?_, ?_, fun _ => ⟨ax, ax0, ax1, ay, ay0, ay1, by simp⟩, ?_, ?_, ?_, fun h => by rw [upL_ne L (by decide)] at h; obtain ⟨T, i7, k0, k1, k2, k3, k4, k5⟩ := c7 h; exact ⟨T, i7, by first|exact k0|(simp (disch := omega) [k0];done)|omega|(simp;omega), by first|exact k1|(simp (disch := omega) [k1];done)|omega|(simp;omega), by first|exact k2|(simp (disch := omega) [k2];done)|omega|(simp;omega), by first|exact k3|(simp (disch := omega) [k3];done)|omega|(simp;omega), by first|exact k4|(simp (disch := omega) [k4];done)|omega|(simp;omega), by first|exact k5|(simp (disch := omega) [k5];done)|omega|(simp;omega)⟩, ?_, fun h => by rw [upL_ne L (by decide)] at h; obtain ⟨T, i7, k0, k1, k2, k3, k4, k5⟩ := c9 h; exact ⟨T, i7, by first|exact k0|(simp (disch := omega) [k0];done)|omega|(simp;omega), by first|exact k1|(simp (disch := omega) [k1];done)|omega|(simp;omega), by first|exact k2|(simp (disch := omega) [k2];done)|omega|(simp;omega), by first|exact k3|(simp (disch := omega) [k3];done)|omega|(simp;omega), by first|exact k4|(simp (disch := omega) [k4];done)|omega|(simp;omega), by first|exact k5|(simp (disch := omega) [k5];done)|omega|(simp;omega)⟩, ?_, ?_⟩ <;> first|(simp (disch := omega) [b2, b3, b4, hr, hz, xr, xz, xo, hq, hrs, fc2, fn7, List.length_map, tkS];done)|omega|(simp;omega)|(simp [upL];assumption)|(simp (disch := omega) [b2, b3, b4, hr, hz, xr, xz, xo, hq, hrs, fc2, fn7, List.length_map, tkS, upL];done)|(simp (disch := omega) [b2, b3, b4, hr, hz, xr, xz, xo, hq, hrs, fc2, fn7, List.length_map, tkS, upL];assumption)|(simp (disch := first | omega | (simp; done) | (simp; omega)) [hrestr_in, hrestr_out, hrs, hupd_same];done)
     ·simp only [List.getElem?_toArray, List.getElem?_cons_zero, List.getElem?_cons_succ, Option.some.injEq] at hoo
      subst hoo
      try simp only [Nat.zero_add, Nat.reduceAdd] at hxx ⊢
      have fn7 := n7 (hC.not hxx (k := 9) rfl (by simp [pre, Region.binds]))
      refine .e ?_ (by simp (disch := first|omega|(simp only[ln];omega)) [b2, b3, b4, hr, hz, xr, xz, xo, hq, hrs, fn7, List.length_map, tkS]; rfl)
      refine ⟨q, ?_, ?_, ?_, ?_, ?_, ?_, ?_, ?_, rfl, ?_, ?_, ?_, ?_, ?_, ?_, fun _ => ?_, ?_, ?_, fun h => by rw [upL_ne L (by decide)] at h; obtain ⟨T, i7, k0, k1, k2, k3, k4, k5⟩ := c7 h; exact ⟨T, i7, by first|exact k0|(simp (disch := omega) [k0];done)|omega|(simp;omega), by first|exact k1|(simp (disch := omega) [k1];done)|omega|(simp;omega), by first|exact k2|(simp (disch := omega) [k2];done)|omega|(simp;omega), by first|exact k3|(simp (disch := omega) [k3];done)|omega|(simp;omega), by first|exact k4|(simp (disch := omega) [k4];done)|omega|(simp;omega), by first|exact k5|(simp (disch := omega) [k5];done)|omega|(simp;omega)⟩, ?_, fun h => by rw [upL_ne L (by decide)] at h; obtain ⟨T, i7, k0, k1, k2, k3, k4, k5⟩ := c9 h; exact ⟨T, i7, by first|exact k0|(simp (disch := omega) [k0];done)|omega|(simp;omega), by first|exact k1|(simp (disch := omega) [k1];done)|omega|(simp;omega), by first|exact k2|(simp (disch := omega) [k2];done)|omega|(simp;omega), by first|exact k3|(simp (disch := omega) [k3];done)|omega|(simp;omega), by first|exact k4|(simp (disch := omega) [k4];done)|omega|(simp;omega), by first|exact k5|(simp (disch := omega) [k5];done)|omega|(simp;omega)⟩, ?_, ?_⟩ <;> first|(simp (disch := omega) [b2, b3, b4, hr, hz, xr, xz, xo, hq, hrs, fn7, List.length_map, tkS];done)|omega|(simp;omega)|(simp [upL];assumption)|(simp (disch := omega) [b2, b3, b4, hr, hz, xr, xz, xo, hq, hrs, fn7, List.length_map, tkS, upL];done)|(simp (disch := omega) [b2, b3, b4, hr, hz, xr, xz, xo, hq, hrs, fn7, List.length_map, tkS, upL];assumption)|(simp (disch := first | omega | (simp; done) | (simp; omega)) [hrestr_in, hrestr_out, hrs, hupd_same];done)
     ·simp only [List.getElem?_toArray, List.getElem?_cons_zero, List.getElem?_cons_succ, Option.some.injEq] at hoo
      subst hoo
      try simp only [Nat.zero_add, Nat.reduceAdd] at hxx ⊢
      have l3 : L 3 = true := hpp 3 (by simp [pre, Region.binds])
      have fc3 := c3 l3
      have l4 : L 4 = true := hpp 4 (by simp [pre, Region.binds])
      have fc4 := c4 l4
      have fn5 := n5 (hC.not hxx (k := 7) rfl (by simp [pre, Region.binds]))
      have fn7 := n7 (hC.not hxx (k := 9) rfl (by simp [pre, Region.binds]))
      refine AOPS.old fun hold5 => ?_
      refine .a (spot_ac l q id _ _ dl hl hq (by simp (disch := omega) [hr]) hold5) hb84 ?_ (ha := by simp (disch := first|omega|(simp only[ln];omega)) [idf_Wd', b2, b3, b4, hr, hz, xr, xz, xo, hq, hrs, fc3, fc4, fn5, fn7, List.length_map, tkS])
      rintro _ _ nx4 ⟨⟨ax, ay, rfl, ax0, ax1, ay0, ay1⟩, ⟨pz, hpz, rfl⟩, hnx4⟩
      try simp only [] at hnx4
      clear hold5
      refine AOPS.nil ?_
      refine ⟨pz, ?_, ?_, ?_, ?_, ?_, ?_, ?_, ?_, rfl, hpz, ?_, ?_, ?_, ?_, ?_, ?_, fun _ => ⟨ax, ax0, ax1, ay, ay0, ay1, by simp⟩, ?_, fun h => by rw [upL_ne L (by decide)] at h; obtain ⟨T, i7, k0, k1, k2, k3, k4, k5⟩ := c7 h; exact ⟨T, i7, by first|exact k0|(simp (disch := omega) [k0];done)|omega|(simp;omega), by first|exact k1|(simp (disch := omega) [k1];done)|omega|(simp;omega), by first|exact k2|(simp (disch := omega) [k2];done)|omega|(simp;omega), by first|exact k3|(simp (disch := omega) [k3];done)|omega|(simp;omega), by first|exact k4|(simp (disch := omega) [k4];done)|omega|(simp;omega), by first|exact k5|(simp (disch := omega) [k5];done)|omega|(simp;omega)⟩, ?_, fun h => by rw [upL_ne L (by decide)] at h; obtain ⟨T, i7, k0, k1, k2, k3, k4, k5⟩ := c9 h; exact ⟨T, i7, by first|exact k0|(simp (disch := omega) [k0];done)|omega|(simp;omega), by first|exact k1|(simp (disch := omega) [k1];done)|omega|(simp;omega), by first|exact k2|(simp (disch := omega) [k2];done)|omega|(simp;omega), by first|exact k3|(simp (disch := omega) [k3];done)|omega|(simp;omega), by first|exact k4|(simp (disch := omega) [k4];done)|omega|(simp;omega), by first|exact k5|(simp (disch := omega) [k5];done)|omega|(simp;omega)⟩, ?_, ?_⟩ <;> first|(simp (disch := omega) [b2, b3, b4, hr, hz, xr, xz, xo, hq, hrs, fc3, fc4, fn5, fn7, List.length_map, tkS];done)|omega|(simp;omega)|(simp [upL];assumption)|(simp (disch := omega) [b2, b3, b4, hr, hz, xr, xz, xo, hq, hrs, fc3, fc4, fn5, fn7, List.length_map, tkS, upL];done)|(simp (disch := omega) [b2, b3, b4, hr, hz, xr, xz, xo, hq, hrs, fc3, fc4, fn5, fn7, List.length_map, tkS, upL];assumption)|(simp (disch := first | omega | (simp; done) | (simp; omega)) [hrestr_in, hrestr_out, hrs, hupd_same];done)
     ·simp only [List.getElem?_toArray, List.getElem?_cons_zero, List.getElem?_cons_succ, Option.some.injEq] at hoo
      subst hoo
      try simp only [Nat.zero_add, Nat.reduceAdd] at hxx ⊢
      have l3 : L 3 = true := hpp 3 (by simp [pre, Region.binds])
      have fc3 := c3 l3
      have l5 : L 5 = true := hpp 5 (by simp [pre, Region.binds])
      have fc5 := c5 l5
      have fn5 := n5 (hC.not hxx (k := 7) rfl (by simp [pre, Region.binds]))
      have fn7 := n7 (hC.not hxx (k := 9) rfl (by simp [pre, Region.binds]))
      obtain ⟨x0, xa0, xb0, y0, ya0, yb0, fc3⟩ := fc3
      obtain ⟨x1, xa1, xb1, y1, ya1, yb1, fc5⟩ := fc5
      refine .k 1 ?_ (by simp (disch := first|omega|(simp only[ln];omega)) [List.take_succ_cons, List.take_zero, b2, b3, b4, hr, hz, xr, xz, xo, hq, hrs, fc3, fc5, fn5, fn7, List.length_map, tkS]; rfl)
      refine AOPS.frz1 39 mm 2 ([⟨x0, y0⟩, ⟨x1, y1⟩].map Sp.cells) (.isl ([⟨x0, y0⟩, ⟨x1, y1⟩].map Sp.cells)) (by simp [Sp.cells]) (by simp [Sp.cells]) ?_
      refine AOPS.nil ?_
      refine ⟨q, ?_, ?_, ?_, ?_, ?_, ?_, ?_, ?_, rfl, ?_, ?_, ?_, ?_, ?_, ?_, ?_, ?_, fun _ => ⟨[⟨x0, y0⟩, ⟨x1, y1⟩], rfl, by simp [Sp.ok, I64]; omega, by simp⟩, fun h => by rw [upL_ne L (by decide)] at h; obtain ⟨T, i7, k0, k1, k2, k3, k4, k5⟩ := c7 h; exact ⟨T, i7, by first|exact k0|(simp (disch := omega) [k0];done)|omega|(simp;omega), by first|exact k1|(simp (disch := omega) [k1];done)|omega|(simp;omega), by first|exact k2|(simp (disch := omega) [k2];done)|omega|(simp;omega), by first|exact k3|(simp (disch := omega) [k3];done)|omega|(simp;omega), by first|exact k4|(simp (disch := omega) [k4];done)|omega|(simp;omega), by first|exact k5|(simp (disch := omega) [k5];done)|omega|(simp;omega)⟩, ?_, fun h => by rw [upL_ne L (by decide)] at h; obtain ⟨T, i7, k0, k1, k2, k3, k4, k5⟩ := c9 h; exact ⟨T, i7, by first|exact k0|(simp (disch := omega) [k0];done)|omega|(simp;omega), by first|exact k1|(simp (disch := omega) [k1];done)|omega|(simp;omega), by first|exact k2|(simp (disch := omega) [k2];done)|omega|(simp;omega), by first|exact k3|(simp (disch := omega) [k3];done)|omega|(simp;omega), by first|exact k4|(simp (disch := omega) [k4];done)|omega|(simp;omega), by first|exact k5|(simp (disch := omega) [k5];done)|omega|(simp;omega)⟩, ?_, ?_⟩ <;> first|(simp (disch := omega) [b2, b3, b4, hr, hz, xr, xz, xo, hq, hrs, fc3, fc5, fn5, fn7, List.length_map, tkS];done)|omega|(simp;omega)|(simp [upL];assumption)|(simp (disch := omega) [b2, b3, b4, hr, hz, xr, xz, xo, hq, hrs, fc3, fc5, fn5, fn7, List.length_map, tkS, upL];done)|(simp (disch := omega) [b2, b3, b4, hr, hz, xr, xz, xo, hq, hrs, fc3, fc5, fn5, fn7, List.length_map, tkS, upL];assumption)|(simp (disch := first | omega | (simp; done) | (simp; omega)) [hrestr_in, hrestr_out, hrs, hupd_same];done)
     ·simp only [List.getElem?_toArray, List.getElem?_cons_zero, List.getElem?_cons_succ, Option.some.injEq] at hoo
      subst hoo
      try simp only [Nat.zero_add, Nat.reduceAdd] at hxx ⊢
      have l1 : L 1 = true := hpp 1 (by simp [pre, Region.binds])
      have fc1 := c1 l1
      have l5 : L 5 = true := hpp 5 (by simp [pre, Region.binds])
      have fc5 := c5 l5
      have l6 : L 6 = true := hpp 6 (by simp [pre, Region.binds])
      have fc6 := c6 l6
      have fn5 := n5 hxx
      have fn7 := n7 (hC.not hxx (k := 9) rfl (by simp [pre, Region.binds]))
      obtain ⟨U, hU1, hU2, fc6⟩ := fc6
      have hc1 : (S.length + 2) * 16 ≤ 140737488355328 := by omega
      have hc2 : S.length + 2 ≤ 9223372036854775807 := by omega
      refine AOPS.opapp (by simp (disch := first|omega|(simp only[ln];omega)) [opApp.eq_def, aSrc_isl, aSrc_osl, aSrc_nsl, aSrc_int, wd_app, wd_app2, if_pos, wd_append, wd_take, wd_drop, List.nil_append, b2, b3, b4, hr, hz, xr, xz, xo, hq, hrs, fc1, fc5, fc6, fn5, fn7, List.length_map, tkS, hU1, hc1, hc2, plnS3, src_Wd' (P := Try.prog) elT41]; first | rfl | exact ⟨rfl, rfl⟩ | exact ⟨rfl, rfl, rfl⟩) (by simp) (by simp) ?_
      simp only [puts_some, hdrop]
      refine AOPS.nil ?_
      refine ⟨q, ?_, ?_, ?_, ?_, ?_, ?_, ?_, ?_, rfl, ?_, ?_, ?_, ?_, ?_, ?_, ?_, ?_, ?_, fun _ => ⟨S ++ U, mm, by simp [hU1], fun p hp => (List.mem_append.1 hp).elim (hSo p) (hU2 p), by omega, by simp, by simp [hU1], by simp⟩, ?_, fun h => by rw [upL_ne L (by decide)] at h; obtain ⟨T, i7, k0, k1, k2, k3, k4, k5⟩ := c9 h; exact ⟨T, i7, by first|exact k0|(simp (disch := omega) [k0];done)|omega|(simp;omega), by first|exact k1|(simp (disch := omega) [k1];done)|omega|(simp;omega), by first|exact k2|(simp (disch := omega) [k2];done)|omega|(simp;omega), by first|exact k3|(simp (disch := omega) [k3];done)|omega|(simp;omega), by first|exact k4|(simp (disch := omega) [k4];done)|omega|(simp;omega), by first|exact k5|(simp (disch := omega) [k5];done)|omega|(simp;omega)⟩, fun h => by simp [upL] at h, ?_⟩ <;> first|(simp (disch := omega) [b2, b3, b4, hr, hz, xr, xz, xo, hq, hrs, fc1, fc5, fc6, fn5, fn7, List.length_map, tkS];done)|omega|(simp;omega)|(simp [upL];assumption)|(simp (disch := omega) [b2, b3, b4, hr, hz, xr, xz, xo, hq, hrs, fc1, fc5, fc6, fn5, fn7, List.length_map, tkS, upL];done)|(simp (disch := omega) [b2, b3, b4, hr, hz, xr, xz, xo, hq, hrs, fc1, fc5, fc6, fn5, fn7, List.length_map, tkS, upL];assumption)|(simp (disch := first | omega | (simp; done) | (simp; omega)) [hrestr_in, hrestr_out, hrs, hupd_same];done)
     ·simp only [List.getElem?_toArray, List.getElem?_cons_zero, List.getElem?_cons_succ, Option.some.injEq] at hoo
      subst hoo
      try simp only [Nat.zero_add, Nat.reduceAdd] at hxx ⊢
      have l0 : L 0 = true := hpp 0 (by simp [pre, Region.binds])
      have fc0 := c0 l0
      have l1 : L 1 = true := hpp 1 (by simp [pre, Region.binds])
      have fc1 := c1 l1
      have l2 : L 2 = true := hpp 2 (by simp [pre, Region.binds])
      have fc2 := c2 l2
      have l3 : L 3 = true := hpp 3 (by simp [pre, Region.binds])
      have fc3 := c3 l3
      have l4 : L 4 = true := hpp 4 (by simp [pre, Region.binds])
      have fc4 := c4 l4
      have l5 : L 5 = true := hpp 5 (by simp [pre, Region.binds])
      have fc5 := c5 l5
      have l6 : L 6 = true := hpp 6 (by simp [pre, Region.binds])
      have fc6 := c6 l6
      have l7 : L 7 = true := hpp 7 (by simp [pre, Region.binds])
      have fc7 := c7 l7
      have fn7 := n7 (hC.not hxx (k := 9) rfl (by simp [pre, Region.binds]))
      refine .e ?_ (by simp (disch := first|omega|(simp only[ln];omega)) [b2, b3, b4, hr, hz, xr, xz, xo, hq, hrs, fc0, fc1, fc2, fc3, fc4, fc5, fc6, fc7, fn7, List.length_map, tkS]; rfl)
      refine ⟨q, ?_, ?_, ?_, ?_, ?_, ?_, ?_, ?_, rfl, ?_, ?_, ?_, ?_, ?_, ?_, ?_, ?_, ?_, fun h => by rw [upL_ne L (by decide)] at h; obtain ⟨T, i7, k0, k1, k2, k3, k4, k5⟩ := c7 h; exact ⟨T, i7, by first|exact k0|(simp (disch := omega) [k0];done)|omega|(simp;omega), by first|exact k1|(simp (disch := omega) [k1];done)|omega|(simp;omega), by first|exact k2|(simp (disch := omega) [k2];done)|omega|(simp;omega), by first|exact k3|(simp (disch := omega) [k3];done)|omega|(simp;omega), by first|exact k4|(simp (disch := omega) [k4];done)|omega|(simp;omega), by first|exact k5|(simp (disch := omega) [k5];done)|omega|(simp;omega)⟩, fun _ => ?_, fun h => by rw [upL_ne L (by decide)] at h; obtain ⟨T, i7, k0, k1, k2, k3, k4, k5⟩ := c9 h; exact ⟨T, i7, by first|exact k0|(simp (disch := omega) [k0];done)|omega|(simp;omega), by first|exact k1|(simp (disch := omega) [k1];done)|omega|(simp;omega), by first|exact k2|(simp (disch := omega) [k2];done)|omega|(simp;omega), by first|exact k3|(simp (disch := omega) [k3];done)|omega|(simp;omega), by first|exact k4|(simp (disch := omega) [k4];done)|omega|(simp;omega), by first|exact k5|(simp (disch := omega) [k5];done)|omega|(simp;omega)⟩, ?_, ?_⟩ <;> first|(simp (disch := omega) [b2, b3, b4, hr, hz, xr, xz, xo, hq, hrs, fc0, fc1, fc2, fc3, fc4, fc5, fc6, fc7, fn7, List.length_map, tkS];done)|omega|(simp;omega)|(simp [upL];assumption)|(simp (disch := omega) [b2, b3, b4, hr, hz, xr, xz, xo, hq, hrs, fc0, fc1, fc2, fc3, fc4, fc5, fc6, fc7, fn7, List.length_map, tkS, upL];done)|(simp (disch := omega) [b2, b3, b4, hr, hz, xr, xz, xo, hq, hrs, fc0, fc1, fc2, fc3, fc4, fc5, fc6, fc7, fn7, List.length_map, tkS, upL];assumption)|(simp (disch := first | omega | (simp; done) | (simp; omega)) [hrestr_in, hrestr_out, hrs, hupd_same];done)
     ·simp only [List.getElem?_toArray, List.getElem?_cons_zero, List.getElem?_cons_succ, Option.some.injEq] at hoo
      subst hoo
      try simp only [Nat.zero_add, Nat.reduceAdd] at hxx ⊢
      have l0 : L 0 = true := hpp 0 (by simp [pre, Region.binds])
      have fc0 := c0 l0
      have l1 : L 1 = true := hpp 1 (by simp [pre, Region.binds])
      have fc1 := c1 l1
      have l2 : L 2 = true := hpp 2 (by simp [pre, Region.binds])
      have fc2 := c2 l2
      have l3 : L 3 = true := hpp 3 (by simp [pre, Region.binds])
      have fc3 := c3 l3
      have l4 : L 4 = true := hpp 4 (by simp [pre, Region.binds])
      have fc4 := c4 l4
      have l5 : L 5 = true := hpp 5 (by simp [pre, Region.binds])
      have fc5 := c5 l5
      have l6 : L 6 = true := hpp 6 (by simp [pre, Region.binds])
      have fc6 := c6 l6
      have l7 : L 7 = true := hpp 7 (by simp [pre, Region.binds])
      have fc7 := c7 l7
      have l8 : L 8 = true := hpp 8 (by simp [pre, Region.binds])
      have fc8 := c8 l8
      have fn7 := n7 hxx
      obtain ⟨T, i7, t1, t2, t3, t4, fc7, t5⟩ := fc7
      refine .e ?_ (by simp (disch := first|omega|(simp only[ln];omega)) [b2, b3, b4, hr, hz, xr, xz, xo, hq, hrs, fc0, fc1, fc2, fc3, fc4, fc5, fc6, fc7, fc8, fn7, List.length_map, tkS]; rfl)
      refine ⟨q, ?_, ?_, ?_, ?_, ?_, ?_, ?_, ?_, rfl, ?_, ?_, ?_, ?_, ?_, ?_, ?_, ?_, ?_, fun h => by rw [upL_ne L (by decide)] at h; obtain ⟨T, i7, k0, k1, k2, k3, k4, k5⟩ := c7 h; exact ⟨T, i7, by first|exact k0|(simp (disch := omega) [k0];done)|omega|(simp;omega), by first|exact k1|(simp (disch := omega) [k1];done)|omega|(simp;omega), by first|exact k2|(simp (disch := omega) [k2];done)|omega|(simp;omega), by first|exact k3|(simp (disch := omega) [k3];done)|omega|(simp;omega), by first|exact k4|(simp (disch := omega) [k4];done)|omega|(simp;omega), by first|exact k5|(simp (disch := omega) [k5];done)|omega|(simp;omega)⟩, ?_, fun _ => ⟨T, i7, t1, t2, t3, t4, by simp, by simp (disch := omega) [t5]⟩, ?_, fun h => by simp [upL] at h⟩ <;> first|(simp (disch := omega) [b2, b3, b4, hr, hz, xr, xz, xo, hq, hrs, fc0, fc1, fc2, fc3, fc4, fc5, fc6, fc7, fc8, fn7, List.length_map, tkS];done)|omega|(simp;omega)|(simp [upL];assumption)|(simp (disch := omega) [b2, b3, b4, hr, hz, xr, xz, xo, hq, hrs, fc0, fc1, fc2, fc3, fc4, fc5, fc6, fc7, fc8, fn7, List.length_map, tkS, upL];done)|(simp (disch := omega) [b2, b3, b4, hr, hz, xr, xz, xo, hq, hrs, fc0, fc1, fc2, fc3, fc4, fc5, fc6, fc7, fc8, fn7, List.length_map, tkS, upL];assumption)|(simp (disch := first | omega | (simp; done) | (simp; omega)) [hrestr_in, hrestr_out, hrs, hupd_same];done)
     · simp at hoo
    ·rintro L ⟨e, H, mm, nt⟩ hL ⟨q, b2, b3, b4, hr, hz, xr, xz, xo, hnt, hq, hrs, c0, c1, c2, c3, c4, c5, c6, c7, c8, c9, n5, n7⟩
     replace c0 := c0 (hL 0 (by simp))
     replace c1 := c1 (hL 1 (by simp))
     replace c2 := c2 (hL 2 (by simp))
     replace c3 := c3 (hL 3 (by simp))
     replace c4 := c4 (hL 4 (by simp))
     replace c5 := c5 (hL 5 (by simp))
     replace c6 := c6 (hL 6 (by simp))
     replace c7 := c7 (hL 7 (by simp))
     replace c8 := c8 (hL 8 (by simp))
     replace c9 := c9 (hL 9 (by simp))
     clear n5 n7
     simp only [] at b2 b3 b4 hr hz xr xz xo hnt hq hrs c0 c1 c2 c3 c4 c5 c6 c7 c8 c9
     subst hnt
     refine J4 _ ?_
     obtain ⟨T, i7, t1, t2, t3, t4, t5, t6⟩ := c9
     refine ⟨nx2, i7, T.length, T, t2, by first | omega | (simp; omega), by first | omega | (simp; omega), by first | omega | (simp; omega), by first | omega | (simp; omega), by simp (disch := first | omega | (simp; done) | (simp; omega)) [hrestr_in, hrestr_out, hrs, hupd_same], ?_, ?_, ?_, ?_, ?_, ?_, ?_, ?_, rfl⟩ <;> first|(simp (disch := omega) [List.map_append, Sp.cells, b2, b4, hz, t1, t5, t6];done)|omega|(simp;done)|(simp;omega)
   ·try simp only[dc]at h31
    refine .skip ?_
    refine J4 _ ?_
    refine ⟨nx2, i5, S.length, S, hSo, by first | omega | (simp; omega), by first | omega | (simp; omega), by first | omega | (simp; omega), by first | omega | (simp; omega), by simp (disch := first | omega | (simp; done) | (simp; omega)) [hrestr_in, hrestr_out, hrestr_all hd, hupd_same], ?_, ?_, ?_, ?_, ?_, ?_, ?_, ?_, rfl⟩ <;> first|(simp (disch := omega) [List.map_append, Sp.cells];done)|omega|(simp;done)|(simp;omega)
section
attribute [local simp] Sp.av Sp.cells Sg.av Sg.cells
set_option maxHeartbeats 1000000 in
theorem sameRing_fc (a b : List Sp) (ha : a.length ≤ 1099511627776) (hb : b.length ≤ 1099511627776) : FC Try.prog 41 [.agg [.isl (a.map Sp.cells)], .agg [.isl (b.map Sp.cells)]] (.bool (decide (a = b))) := by
 refine .b Try.func41 31 (fun nx K hK => ?_) (hi := by simp [idfL, idf, idfLL_iff, Sp.av, Sp.cells, Sg.av, Sg.cells])
 refine .q ?_
 refine .sq fun K2 hK2 => ?_
 refine .q ?_ (by simp (disch := first|omega|(simp only[ln];omega)) [List.length_map]; rfl)
 refine .c (t := !decide ((a.length : Int) = (b.length : Int))) (fun h12 => ?_) (fun h12 => ?_)
 ·try simp only[dc]at h12
  refine .q ?_
  refine .ret ?_
  exact hK _ _ _ _ trivial ((Fin.m).cast (by rw [decide_eq_false]; intro h; simp [h] at h12))
 ·try simp only[dc]at h12
  have hab0 : (a.length : Int) = (b.length : Int) := by simpa using h12
  have hab : a.length = b.length := by omega
  refine .skip ?_
  refine hK2 _ ?_
  refine .sq fun K5 hK5 => ?_
  refine .q ?_
  refine .block ?_
  
  refine .loop (fun N s => ∃ i : Nat, N = a.length - i ∧ i ≤ a.length ∧ (∀ j, j < i → gs a j = gs b j) ∧ s.env 2 = .ptr nx 0 0 ∧ s.env 3 = .ptr (nx + 1) 0 0 ∧ s.env 5 = .int .i64 (i : Int) ∧ s.heap nx = some (1, [[.isl (a.map Sp.cells)]]) ∧ nx < s.nx ∧ s.heap (nx + 1) = some (1, [[.isl (b.map Sp.cells)]]) ∧ (nx + 1) < s.nx ∧ s.nt = 31) (a.length) (by refine ⟨0, by omega, by omega, fun j hj => absurd hj (by omega), ?_, ?_, ?_, ?_, ?_, ?_, ?_, rfl⟩ <;> first|(simp (disch := omega);done)|omega|(simp;done)|(simp;omega)) ?_
  rintro N ⟨e, H, mm, nt⟩ ⟨i, rfl, hi, hv, g2, g3, g5, Ha, xa, Hb, xb, rfl⟩
  simp only [] at g2 g3 g5 Ha xa Hb xb
  refine .sq fun K7 hK7 => ?_
  refine .q ?_ (by simp (disch := first|omega|(simp only[ln];omega)) [g2, g5, Ha, List.length_map]; rfl)
  refine .c (fun h17 => ?_) (fun h17 => ?_)
  ·try simp only[dc]at h17
   have hi' : i < a.length := by omega
   have hib : i < b.length := by omega
   have hat := rg_at hi'
   have hat2 := rg_at hib
   refine .skip ?_
   refine hK7 _ ?_
   refine .sq fun K9 hK9 => ?_
   refine .block ?_
   refine .sq fun K10 hK10 => ?_
   refine .df 11 ?_ (by simp (disch := first|omega|(simp only[ln];omega)) [runDf.eq_def, runF1, runF2, stepF.eq_def, updo.eq_def, hupo.eq_def, opSto1.eq_def, if_pos, g2, g3, g5, Ha, Hb, hat, hat2, eqW2, List.length_map]; rfl)
   refine hK10 _ ?_
   refine .c (t := !decide (gs a i = gs b i)) (fun h30 => ?_) (fun h30 => ?_)
   ·try simp only[dc]at h30
    refine .q ?_
    refine .ret ?_
    exact hK _ _ _ _ trivial ((Fin.m).cast (by rw [decide_eq_false]; intro h; simp [h] at h30))
   ·try simp only[dc]at h30
    have hst : gs a i = gs b i := by simpa using h30
    refine .skip ?_
    refine hK9 _ ?_
    refine .r ?_ (by simp (disch := first|omega|(simp only[ln];omega)) [g5]; rfl)
    refine ⟨a.length - (i + 1), by omega, i + 1, rfl, by omega, fun j hj => by
      rcases Nat.lt_or_ge j i with h | h
      · exact hv j h
      · rw [show j = i by omega]; exact hst, ?_, ?_, ?_, ?_, ?_, ?_, ?_, rfl⟩ <;> first|(simp (disch := omega) [g2, g3, g5, Ha, Hb];done)|omega|(simp;done)|(simp;omega)
  ·try simp only[dc]at h17
   have hin : i = a.length := by omega
   have he := gs_ext hab fun j hj => hv j (by omega)
   refine .exit ?_
   refine hK5 _ ?_
   refine .q ?_
   refine .ret ?_
   exact hK _ _ _ _ trivial ((Fin.m).cast (by simp [he]))
theorem sameRing_no  : FC Try.prog 41 [.agg [.nsl], .agg [.nsl]] (.bool true) := by
 refine .b Try.func41 31 (fun nx K hK => ?_) (hi := by simp [idfL, idf, idfLL_iff, Sp.av, Sp.cells, Sg.av, Sg.cells])
 refine .q ?_
 refine .sq fun K2 hK2 => ?_
 refine .q ?_
 refine .c (t := false) (fun h12 => ?_) (fun h12 => ?_)
 ·simp at h12
 ·try simp only[dc]at h12
  refine .skip ?_
  refine hK2 _ ?_
  refine .sq fun K4 hK4 => ?_
  refine .q ?_
  refine .block ?_
  
  refine .loop (fun N s => ∃ i : Nat, N = 0 - i ∧ i ≤ 0 ∧ s.env 2 = .ptr nx 0 0 ∧ s.env 5 = .int .i64 (i : Int) ∧ s.heap nx = some (1, [[.nsl]]) ∧ nx < s.nx ∧ s.nt = 31) (0) (by refine ⟨0, by omega, by omega, ?_, ?_, ?_, ?_, rfl⟩ <;> first|(simp (disch := omega);done)|omega|(simp;done)|(simp;omega)) ?_
  rintro N ⟨e, H, mm, nt⟩ ⟨i, rfl, hi, g2, g5, Ha, xa, rfl⟩
  simp only [] at g2 g5 Ha xa
  refine .sq fun K6 hK6 => ?_
  refine .q ?_ (by simp (disch := first|omega|(simp only[ln];omega)) [g2, g5, Ha]; rfl)
  refine .c (fun h17 => ?_) (fun h17 => ?_)
  ·simp at h17; omega
  ·try simp only[dc]at h17
   refine .exit ?_
   refine hK4 _ ?_
   refine .q ?_
   refine .ret ?_
   exact hK _ _ _ _ trivial (Fin.m)
end

end Go.Proofs.Ytdcajfgeleopiaa

/- Walks: FnRingMoved, walked. -/
namespace Go.Proofs.Ytdcajfgeleopiaa
open Go Go.RowKit
set_option linter.unusedSimpArgs false
set_option linter.unusedVariables false
set_option maxRecDepth 100000
attribute [local simp] szT2 byT2 agT2 unT2 zoT2 szT3 byT3 agT3 unT3 zoT3 szT5 byT5 agT5 unT5 zoT5 szT22 byT22 agT22 elT22 unT22 zoT22 szT39 byT39 agT39 elT39 unT39 zoT39 szT41 byT41 agT41 elT41 unT41 zoT41 szT43 byT43 agT43 flT43 fdT43_0 zoT43 szT102 byT102 agT102 flT102 fdT102_0 fdT102_1 zoT102 szT104 byT104 agT104 flT104 fdT104_0 fdT104_1 zoT104

theorem rotR_app (S : List Sp) (k : Nat) : List.drop k (S.map Sp.cells) ++ List.take k (S.map Sp.cells) = (rotR S k).map Sp.cells := by unfold rotR; simp
theorem ringForm_fc (r : List Sp) (hl : r.length ≤ 1099511627776) (hz : rgF r = 0) : FC Try.prog 42 [.agg [.isl (r.map Sp.cells)]] (.agg [.isl ((fmR r).map Sp.cells)]) :=
  FC.of_own (z := 2) (es := (fmR r).map Sp.cells) (mk := fun id => .agg [.osl id 0 r.length]) (by simp [idfL, idf, idfLL_iff, Sp.cells]) (by simp [idfL, idf, idfLL_iff, Sp.cells])
    (fun id => by simp only [fz, fzL]; exact congrArg (fun x => AV.agg [x]) (by have := fz_fill (id := id) Sp.cells (fmR r) (fmR_len r).symm; simpa [fz] using this)) fun nx => ringForm_own r hl hz nx
theorem ringSegs_fc (r : List Sp) (hl : r.length ≤ 1099511627776) (hz : rgF r = 0) : FC Try.prog 20 [.agg [.isl (r.map Sp.cells)]] (.isl ((sds r).map Sg.cells)) :=
  FC.of_own (z := 4) (es := (sds r).map Sg.cells) (mk := fun id => .osl id 0 r.length) (by simp [idfL, idf, idfLL_iff, Sp.cells]) (by simp [idfL, idf, idfLL_iff, Sg.cells])
    (fun id => by have := fz_fill (id := id) Sg.cells (sds r) (sds_len r).symm; simpa [fz] using this) fun nx => ringSegs_own r hl hz nx

section
attribute [local simp] Sp.cells
set_option maxHeartbeats 8000000 in
theorem fnRingMoved_fc (l : List Int) (dl : Dig 256 l) : FC Try.prog 7 [Wd .u8 l] (.bool true) := by
 refine .b Try.func7 72 (fun nx K hK => ?_)
 refine .q ?_
 refine .sq fun K2 hK2 => ?_
 refine .sq fun K3 hK3 => ?_
 refine .region ?_
 refine .kf 1 (big_fc l) hb10 ?_
 refine .nil ?_
 refine hK3 _ ?_
 refine .c (t := decide (1048576 < (l.length : Int))) (fun h8 => ?_) (fun h8 => ?_)
 ·try simp only[dc]at h8
  refine .q ?_
  refine .ret ?_
  exact hK _ _ _ _ trivial (Fin.m)
 ·try simp only[dc]at h8
  have hl : l.length ≤ 1048576 := by omega
  refine .skip ?_
  refine hK2 _ ?_
  refine .sq fun K5 hK5 => ?_
  refine .region ?_
  refine .k 1 ?_
  refine AOPS.old fun hold1 => ?_
  refine .a (drawRingFault_ac l _ _ dl hl hold1) hb37 ?_
  rintro _ _ nx1 ⟨⟨S, rfl, hSo, hSl⟩, rfl, hnx1⟩
  clear hold1
  have cf := ringFaultI_fc S (by omega)
  have cs := ringFaultS_fc S (by omega)
  refine .e ?_
  refine hK5 _ ?_
  refine .sq fun K6 hK6 => ?_
  refine .region ?_
  refine .kf 1 cf hb38 ?_
  refine .e ?_
  refine hK6 _ ?_
  refine .sq fun K7 hK7 => ?_
  refine .sq fun K8 hK8 => ?_
  refine .region ?_
  refine .kf 2 cs hb39 ?_ (by simp (disch := first|omega|(simp only[ln];omega)) [List.take_succ_cons, List.take_zero, List.length_map]; rfl) (ha := by simp (disch := first|omega|(simp only[ln];omega)) [idf_Wd', List.length_map])
  refine .e ?_ (by simp (disch := first|omega|(simp only[ln];omega)) [List.length_map]; rfl)
  refine hK8 _ ?_
  refine .c (t := ((S.length : Int) == 0)) (fun h22 => ?_) (fun h22 => ?_)
  ·try simp only[dc]at h22
   refine .sq fun K9 hK9 => ?_
   refine .region ?_
   refine .kf 2 cs hb39 ?_
   refine .e ?_
   refine hK9 _ ?_
   refine .ret ?_
   exact hK _ _ _ _ trivial ((Fin.m))
  ·try simp only[dc]at h22
   obtain ⟨n, hn⟩ : ∃ n, S.length = n := ⟨_, rfl⟩
   have hn0 : n ≠ 0 := fun h => by rw [hn, h] at h22; simp at h22
   obtain ⟨k, hk⟩ : ∃ k, l.length % n = k := ⟨_, rfl⟩
   have hkn : k < n := by rw [← hk]; exact Nat.mod_lt _ (by omega)
   have htm : Int.tmod (l.length : Int) (n : Int) = (k : Int) := by rw [← hk]; exact (Int.ofNat_tmod _ _).symm
   obtain ⟨T, hT⟩ : ∃ T, rotR S k = T := ⟨_, rfl⟩
   have hTl : T.length = n := by rw [← hT, rotR_len, hn]
   have hkl : k ≤ S.length := by omega
   have hra := rotR_app S k
   rw [hT] at hra
   have f1 : rgF T = rgF S := by rw [← hT]; exact rotR_rgF hkl
   have a1 : rgA T = rgA S := by unfold rgA; rw [f1, ← hT, area_rot k hkl]
   have tf := ringFaultI_fc T (by omega)
   rw [f1] at tf
   have ta := ringArea2I_fc T (by omega)
   rw [a1] at ta
   have sa := ringArea2I_fc S (by omega)
   refine .skip ?_
   refine hK7 _ ?_
   refine .q ?_ (by simp (disch := first|omega|(simp only[ln];omega)) [len_Wd (P := Try.prog) #[22] rfl elT22, List.length_map, hn, hn0, htm]; rfl)
   refine .sq fun K11 hK11 => ?_
   have htT : List.take T.length (List.map Sp.cells T) = List.map Sp.cells T := List.take_of_length_le (by simp)
   have htkS : List.take n (List.map Sp.cells S) = List.map Sp.cells S := List.take_of_length_le (by rw [List.length_map]; omega)
   have hkl2 : k ≤ n := by omega
   have hra2 : List.map Sp.cells (S.drop k) ++ List.map Sp.cells (S.take k) = List.map Sp.cells T := by rw [← hT]; unfold rotR; simp
   have hDm : List.drop k (List.map Sp.cells S) = List.map Sp.cells (S.drop k) := List.map_drop.symm
   have hEm : List.take k (List.map Sp.cells S) = List.map Sp.cells (S.take k) := List.map_take.symm
   have hdl : (S.drop k).length = n - k := by rw [List.length_drop, hn]
   have hel : (S.take k).length = k := by rw [List.length_take]; omega
   generalize S.drop k = D at hra2 hDm hdl
   generalize S.take k = E at hra2 hEm hel
   have htk : List.take (n - k) (List.map Sp.cells D) = List.map Sp.cells D := List.take_of_length_le (by rw [List.length_map]; omega)
   refine AWP.inv Try.checked.mixed (by kernel_rfl) (fun L s => ∃ i0 : Nat, ∃ i5 : Nat, ∃ i12 : Nat, (s.env 3 = .ptr nx1 0 0) ∧ (s.env 4 = .int .i64 (rgF S)) ∧ (s.env 5 = .int .i64 (k : Int)) ∧ (s.heap nx1 = some (1, [[.isl (S.map Sp.cells)]])) ∧ (nx1 < s.nx) ∧ (s.nt = 72) ∧ (L 0 = true → (s.env 33 = .osl i0 0 0 ∧ nx1 < i0 ∧ i0 < s.nx ∧ (L 5 = false → s.heap i0 = some (2, [])))) ∧ (L 1 = true → s.env 34 = .ptr nx1 0 0) ∧ (L 2 = true → s.env 35 = .isl (S.map Sp.cells)) ∧ (L 3 = true → s.env 36 = .int .i64 (k : Int)) ∧ (L 4 = true → s.env 37 = .isl (D.map Sp.cells)) ∧ (L 5 = true → (s.env 38 = .osl i5 0 (n - k) ∧ nx1 < i5 ∧ i5 < s.nx ∧ (L 10 = false → s.heap i5 = some (2, D.map Sp.cells)))) ∧ (L 6 = true → s.env 39 = .ptr nx1 0 0) ∧ (L 7 = true → s.env 40 = .isl (S.map Sp.cells)) ∧ (L 8 = true → s.env 41 = .int .i64 (k : Int)) ∧ (L 9 = true → s.env 42 = .isl (E.map Sp.cells)) ∧ (L 10 = true → s.env 43 = .isl (T.map Sp.cells)) ∧ (L 11 = true → s.env 44 = .agg [.isl (T.map Sp.cells)]) ∧ (L 12 = true → (s.env 6 = .ptr i12 0 0 ∧ nx1 < i12 ∧ i12 < s.nx ∧ (L 13 = false → s.heap i12 = some (1, [[.nsl]])) ∧ (L 13 = true → s.heap i12 = some (1, [[.isl (T.map Sp.cells)]]))))) (⟨0, 0, 0, by first|(simp (disch := omega) [hn];done)|omega|(simp;done)|(simp;omega)|(simp (disch := omega) [hn] <;> omega), by first|(simp (disch := omega) [hn];done)|omega|(simp;done)|(simp;omega)|(simp (disch := omega) [hn] <;> omega), by first|(simp (disch := omega) [hn];done)|omega|(simp;done)|(simp;omega)|(simp (disch := omega) [hn] <;> omega), by first|(simp (disch := omega) [hn];done)|omega|(simp;done)|(simp;omega)|(simp (disch := omega) [hn] <;> omega), by first|(simp (disch := omega) [hn];done)|omega|(simp;done)|(simp;omega)|(simp (disch := omega) [hn] <;> omega), rfl, fun h => by simp at h, fun h => by simp at h, fun h => by simp at h, fun h => by simp at h, fun h => by simp at h, fun h => by simp at h, fun h => by simp at h, fun h => by simp at h, fun h => by simp at h, fun h => by simp at h, fun h => by simp at h, fun h => by simp at h, fun h => by simp at h⟩) ?_ ?_
   ·rintro L ⟨e, H, mm, nt⟩ x o hC ⟨i0, i5, i12, b3, b4, b5, hc, xc, hnt, c0, c1, c2, c3, c4, c5, c6, c7, c8, c9, c10, c11, c12⟩ hxx hoo hpp
    simp only [] at b3 b4 b5 hc xc hnt c0 c1 c2 c3 c4 c5 c6 c7 c8 c9 c10 c11 c12
    subst hnt
    rcases x with _ | _ | _ | _ | _ | _ | _ | _ | _ | _ | _ | _ | _ | _ | x
    ·simp only [List.getElem?_toArray, List.getElem?_cons_zero, List.getElem?_cons_succ, Option.some.injEq] at hoo
     subst hoo
     try simp only [Nat.zero_add, Nat.reduceAdd] at hxx ⊢
     refine .e ?_ (by simp (disch := first|omega|(simp only[ln];omega)) [if_pos, b3, b4, b5, hc, xc, List.length_map, hn, hkn, hkl2, Nat.le_of_lt hkn]; rfl)
     refine ⟨mm, i5, i12, ?_, ?_, ?_, ?_, ?_, rfl, fun _ => ⟨by simp, by omega, by simp, fun _ => by simp⟩, ?_, ?_, ?_, ?_, fun h => by rw [upL_ne L (by decide)] at h; obtain ⟨a1, a2, a3, a4⟩ := c5 h; exact ⟨by simp [a1], a2, by first|omega|(simp; omega), fun g => by rw [upL_ne L (by decide)] at g; first | (have := a4 g; simp (disch := omega) [this]; done) | (simp_all; done)⟩, ?_, ?_, ?_, ?_, ?_, ?_, fun h => by rw [upL_ne L (by decide)] at h; obtain ⟨a1, a2, a3, a4, a5⟩ := c12 h; exact ⟨by simp [a1], a2, by first|omega|(simp; omega), fun g => by rw [upL_ne L (by decide)] at g; first | (have := a4 g; simp (disch := omega) [this]; done) | (simp_all; done), fun g => by rw [upL_ne L (by decide)] at g; first | (have := a5 g; simp (disch := omega) [this]; done) | (simp_all; done)⟩⟩ <;> first|(simp (disch := omega) [b3, b4, b5, hc, xc, List.length_map, hn, hkn, hkl2, Nat.le_of_lt hkn];done)|omega|(simp;omega)|(simp [upL];assumption)|(simp (disch := omega) [b3, b4, b5, hc, xc, List.length_map, hn, hkn, hkl2, Nat.le_of_lt hkn, upL];done)|(simp (disch := omega) [b3, b4, b5, hc, xc, List.length_map, hn, hkn, hkl2, Nat.le_of_lt hkn, upL];assumption)
    ·simp only [List.getElem?_toArray, List.getElem?_cons_zero, List.getElem?_cons_succ, Option.some.injEq] at hoo
     subst hoo
     try simp only [Nat.zero_add, Nat.reduceAdd] at hxx ⊢
     refine .e ?_ (by simp (disch := first|omega|(simp only[ln];omega)) [if_pos, b3, b4, b5, hc, xc, List.length_map, hn, hkn, hkl2, Nat.le_of_lt hkn]; rfl)
     refine ⟨i0, i5, i12, ?_, ?_, ?_, ?_, ?_, rfl, fun h => by rw [upL_ne L (by decide)] at h; obtain ⟨a1, a2, a3, a4⟩ := c0 h; exact ⟨by simp [a1], a2, by first|omega|(simp; omega), fun g => by rw [upL_ne L (by decide)] at g; first | (have := a4 g; simp (disch := omega) [this]; done) | (simp_all; done)⟩, fun _ => ?_, ?_, ?_, ?_, fun h => by rw [upL_ne L (by decide)] at h; obtain ⟨a1, a2, a3, a4⟩ := c5 h; exact ⟨by simp [a1], a2, by first|omega|(simp; omega), fun g => by rw [upL_ne L (by decide)] at g; first | (have := a4 g; simp (disch := omega) [this]; done) | (simp_all; done)⟩, ?_, ?_, ?_, ?_, ?_, ?_, fun h => by rw [upL_ne L (by decide)] at h; obtain ⟨a1, a2, a3, a4, a5⟩ := c12 h; exact ⟨by simp [a1], a2, by first|omega|(simp; omega), fun g => by rw [upL_ne L (by decide)] at g; first | (have := a4 g; simp (disch := omega) [this]; done) | (simp_all; done), fun g => by rw [upL_ne L (by decide)] at g; first | (have := a5 g; simp (disch := omega) [this]; done) | (simp_all; done)⟩⟩ <;> first|(simp (disch := omega) [b3, b4, b5, hc, xc, List.length_map, hn, hkn, hkl2, Nat.le_of_lt hkn];done)|omega|(simp;omega)|(simp [upL];assumption)|(simp (disch := omega) [b3, b4, b5, hc, xc, List.length_map, hn, hkn, hkl2, Nat.le_of_lt hkn, upL];done)|(simp (disch := omega) [b3, b4, b5, hc, xc, List.length_map, hn, hkn, hkl2, Nat.le_of_lt hkn, upL];assumption)
    ·simp only [List.getElem?_toArray, List.getElem?_cons_zero, List.getElem?_cons_succ, Option.some.injEq] at hoo
     subst hoo
     try simp only [Nat.zero_add, Nat.reduceAdd] at hxx ⊢
     have l1 : L 1 = true := hpp 1 (by simp [pre, Region.binds])
     have fc1 := c1 l1
     refine .e ?_ (by simp (disch := first|omega|(simp only[ln];omega)) [if_pos, b3, b4, b5, hc, xc, fc1, List.length_map, hn, hkn, hkl2, Nat.le_of_lt hkn]; rfl)
     refine ⟨i0, i5, i12, ?_, ?_, ?_, ?_, ?_, rfl, fun h => by rw [upL_ne L (by decide)] at h; obtain ⟨a1, a2, a3, a4⟩ := c0 h; exact ⟨by simp [a1], a2, by first|omega|(simp; omega), fun g => by rw [upL_ne L (by decide)] at g; first | (have := a4 g; simp (disch := omega) [this]; done) | (simp_all; done)⟩, ?_, fun _ => ?_, ?_, ?_, fun h => by rw [upL_ne L (by decide)] at h; obtain ⟨a1, a2, a3, a4⟩ := c5 h; exact ⟨by simp [a1], a2, by first|omega|(simp; omega), fun g => by rw [upL_ne L (by decide)] at g; first | (have := a4 g; simp (disch := omega) [this]; done) | (simp_all; done)⟩, ?_, ?_, ?_, ?_, ?_, ?_, fun h => by rw [upL_ne L (by decide)] at h; obtain ⟨a1, a2, a3, a4, a5⟩ := c12 h; exact ⟨by simp [a1], a2, by first|omega|(simp; omega), fun g => by rw [upL_ne L (by decide)] at g; first | (have := a4 g; simp (disch := omega) [this]; done) | (simp_all; done), fun g => by rw [upL_ne L (by decide)] at g; first | (have := a5 g; simp (disch := omega) [this]; done) | (simp_all; done)⟩⟩ <;> first|(simp (disch := omega) [b3, b4, b5, hc, xc, fc1, List.length_map, hn, hkn, hkl2, Nat.le_of_lt hkn];done)|omega|(simp;omega)|(simp [upL];assumption)|(simp (disch := omega) [b3, b4, b5, hc, xc, fc1, List.length_map, hn, hkn, hkl2, Nat.le_of_lt hkn, upL];done)|(simp (disch := omega) [b3, b4, b5, hc, xc, fc1, List.length_map, hn, hkn, hkl2, Nat.le_of_lt hkn, upL];assumption)
    ·simp only [List.getElem?_toArray, List.getElem?_cons_zero, List.getElem?_cons_succ, Option.some.injEq] at hoo
     subst hoo
     try simp only [Nat.zero_add, Nat.reduceAdd] at hxx ⊢
     refine .e ?_ (by simp (disch := first|omega|(simp only[ln];omega)) [if_pos, b3, b4, b5, hc, xc, List.length_map, hn, hkn, hkl2, Nat.le_of_lt hkn]; rfl)
     refine ⟨i0, i5, i12, ?_, ?_, ?_, ?_, ?_, rfl, fun h => by rw [upL_ne L (by decide)] at h; obtain ⟨a1, a2, a3, a4⟩ := c0 h; exact ⟨by simp [a1], a2, by first|omega|(simp; omega), fun g => by rw [upL_ne L (by decide)] at g; first | (have := a4 g; simp (disch := omega) [this]; done) | (simp_all; done)⟩, ?_, ?_, fun _ => ?_, ?_, fun h => by rw [upL_ne L (by decide)] at h; obtain ⟨a1, a2, a3, a4⟩ := c5 h; exact ⟨by simp [a1], a2, by first|omega|(simp; omega), fun g => by rw [upL_ne L (by decide)] at g; first | (have := a4 g; simp (disch := omega) [this]; done) | (simp_all; done)⟩, ?_, ?_, ?_, ?_, ?_, ?_, fun h => by rw [upL_ne L (by decide)] at h; obtain ⟨a1, a2, a3, a4, a5⟩ := c12 h; exact ⟨by simp [a1], a2, by first|omega|(simp; omega), fun g => by rw [upL_ne L (by decide)] at g; first | (have := a4 g; simp (disch := omega) [this]; done) | (simp_all; done), fun g => by rw [upL_ne L (by decide)] at g; first | (have := a5 g; simp (disch := omega) [this]; done) | (simp_all; done)⟩⟩ <;> first|(simp (disch := omega) [b3, b4, b5, hc, xc, List.length_map, hn, hkn, hkl2, Nat.le_of_lt hkn];done)|omega|(simp;omega)|(simp [upL];assumption)|(simp (disch := omega) [b3, b4, b5, hc, xc, List.length_map, hn, hkn, hkl2, Nat.le_of_lt hkn, upL];done)|(simp (disch := omega) [b3, b4, b5, hc, xc, List.length_map, hn, hkn, hkl2, Nat.le_of_lt hkn, upL];assumption)
    ·simp only [List.getElem?_toArray, List.getElem?_cons_zero, List.getElem?_cons_succ, Option.some.injEq] at hoo
     subst hoo
     try simp only [Nat.zero_add, Nat.reduceAdd] at hxx ⊢
     have l2 : L 2 = true := hpp 2 (by simp [pre, Region.binds])
     have fc2 := c2 l2
     have l3 : L 3 = true := hpp 3 (by simp [pre, Region.binds])
     have fc3 := c3 l3
     refine .e ?_ (by simp (disch := first|omega|(simp only[ln];omega)) [if_pos, b3, b4, b5, hc, xc, fc2, fc3, List.length_map, hn, hkn, hkl2, Nat.le_of_lt hkn]; rfl)
     refine ⟨i0, i5, i12, ?_, ?_, ?_, ?_, ?_, rfl, fun h => by rw [upL_ne L (by decide)] at h; obtain ⟨a1, a2, a3, a4⟩ := c0 h; exact ⟨by simp [a1], a2, by first|omega|(simp; omega), fun g => by rw [upL_ne L (by decide)] at g; first | (have := a4 g; simp (disch := omega) [this]; done) | (simp_all; done)⟩, ?_, ?_, ?_, fun _ => by simp (disch := omega) [hn, hkl2, fc2, fc3, htkS, hDm], fun h => by rw [upL_ne L (by decide)] at h; obtain ⟨a1, a2, a3, a4⟩ := c5 h; exact ⟨by simp [a1], a2, by first|omega|(simp; omega), fun g => by rw [upL_ne L (by decide)] at g; first | (have := a4 g; simp (disch := omega) [this]; done) | (simp_all; done)⟩, ?_, ?_, ?_, ?_, ?_, ?_, fun h => by rw [upL_ne L (by decide)] at h; obtain ⟨a1, a2, a3, a4, a5⟩ := c12 h; exact ⟨by simp [a1], a2, by first|omega|(simp; omega), fun g => by rw [upL_ne L (by decide)] at g; first | (have := a4 g; simp (disch := omega) [this]; done) | (simp_all; done), fun g => by rw [upL_ne L (by decide)] at g; first | (have := a5 g; simp (disch := omega) [this]; done) | (simp_all; done)⟩⟩ <;> first|(simp (disch := omega) [b3, b4, b5, hc, xc, fc2, fc3, List.length_map, hn, hkn, hkl2, Nat.le_of_lt hkn];done)|omega|(simp;omega)|(simp [upL];assumption)|(simp (disch := omega) [b3, b4, b5, hc, xc, fc2, fc3, List.length_map, hn, hkn, hkl2, Nat.le_of_lt hkn, upL];done)|(simp (disch := omega) [b3, b4, b5, hc, xc, fc2, fc3, List.length_map, hn, hkn, hkl2, Nat.le_of_lt hkn, upL];assumption)
    ·simp only [List.getElem?_toArray, List.getElem?_cons_zero, List.getElem?_cons_succ, Option.some.injEq] at hoo
     subst hoo
     try simp only [Nat.zero_add, Nat.reduceAdd] at hxx ⊢
     have l0 : L 0 = true := hpp 0 (by simp [pre, Region.binds])
     have fc0 := c0 l0
     have l4 : L 4 = true := hpp 4 (by simp [pre, Region.binds])
     have fc4 := c4 l4
     obtain ⟨f01, f02, f03, f04⟩ := id fc0
     replace f04 := f04 hxx
     have hc1 : (n - k) * 16 ≤ 140737488355328 := by omega
     have hc2 : n - k ≤ 9223372036854775807 := by omega
     refine AOPS.opapp (by simp (disch := first|omega|(simp only[ln];omega)) [opApp.eq_def, aSrc_isl, aSrc_osl, aSrc_nsl, aSrc_int, wd_app, wd_app2, if_pos, wd_append, wd_take, wd_drop, List.nil_append, b3, b4, b5, hc, xc, fc0, fc4, f01, List.length_map, hn, hkn, hkl2, Nat.le_of_lt hkn, f04, plnS3, hc1, hc2, hdl, src_Wd' (P := Try.prog) elT41]; first | rfl | exact ⟨rfl, rfl⟩ | exact ⟨rfl, rfl, rfl⟩) (by simp) (by simp) ?_
     simp only [puts_some, hdrop]
     refine AOPS.nil ?_
     refine ⟨i0, mm, i12, ?_, ?_, ?_, ?_, ?_, rfl, fun h => by rw [upL_ne L (by decide)] at h; obtain ⟨a1, a2, a3, a4⟩ := c0 h; exact ⟨by simp [a1], a2, by first|omega|(simp; omega), fun g => by simp [upL] at g⟩, ?_, ?_, ?_, ?_, fun _ => ⟨by simp [hdl], by omega, by simp, fun _ => by simp⟩, ?_, ?_, ?_, ?_, ?_, ?_, fun h => by rw [upL_ne L (by decide)] at h; obtain ⟨a1, a2, a3, a4, a5⟩ := c12 h; have l13 : L 13 = false := hC.not hxx (k := 13) rfl (by simp [pre, Region.binds]); have b12 := a4 l13; have ne : i12 ≠ i0 := (by intro e; rw [e, f04] at b12; simp at b12); exact ⟨by simp [a1], a2, by first|omega|(simp; omega), fun g => by rw [upL_ne L (by decide)] at g; first | (have := a4 g; simp (disch := omega) [this]; done) | (simp_all; done), fun g => by rw [upL_ne L (by decide)] at g; first | (have := a5 g; simp (disch := omega) [this]; done) | (simp_all; done)⟩⟩ <;> first|(simp (disch := omega) [b3, b4, b5, hc, xc, fc0, fc4, f01, List.length_map, hn, hkn, hkl2, Nat.le_of_lt hkn];done)|omega|(simp;omega)|(simp [upL];assumption)|(simp (disch := omega) [b3, b4, b5, hc, xc, fc0, fc4, f01, List.length_map, hn, hkn, hkl2, Nat.le_of_lt hkn, upL];done)|(simp (disch := omega) [b3, b4, b5, hc, xc, fc0, fc4, f01, List.length_map, hn, hkn, hkl2, Nat.le_of_lt hkn, upL];assumption)
    ·simp only [List.getElem?_toArray, List.getElem?_cons_zero, List.getElem?_cons_succ, Option.some.injEq] at hoo
     subst hoo
     try simp only [Nat.zero_add, Nat.reduceAdd] at hxx ⊢
     refine .e ?_ (by simp (disch := first|omega|(simp only[ln];omega)) [if_pos, b3, b4, b5, hc, xc, List.length_map, hn, hkn, hkl2, Nat.le_of_lt hkn]; rfl)
     refine ⟨i0, i5, i12, ?_, ?_, ?_, ?_, ?_, rfl, fun h => by rw [upL_ne L (by decide)] at h; obtain ⟨a1, a2, a3, a4⟩ := c0 h; exact ⟨by simp [a1], a2, by first|omega|(simp; omega), fun g => by rw [upL_ne L (by decide)] at g; first | (have := a4 g; simp (disch := omega) [this]; done) | (simp_all; done)⟩, ?_, ?_, ?_, ?_, fun h => by rw [upL_ne L (by decide)] at h; obtain ⟨a1, a2, a3, a4⟩ := c5 h; exact ⟨by simp [a1], a2, by first|omega|(simp; omega), fun g => by rw [upL_ne L (by decide)] at g; first | (have := a4 g; simp (disch := omega) [this]; done) | (simp_all; done)⟩, fun _ => ?_, ?_, ?_, ?_, ?_, ?_, fun h => by rw [upL_ne L (by decide)] at h; obtain ⟨a1, a2, a3, a4, a5⟩ := c12 h; exact ⟨by simp [a1], a2, by first|omega|(simp; omega), fun g => by rw [upL_ne L (by decide)] at g; first | (have := a4 g; simp (disch := omega) [this]; done) | (simp_all; done), fun g => by rw [upL_ne L (by decide)] at g; first | (have := a5 g; simp (disch := omega) [this]; done) | (simp_all; done)⟩⟩ <;> first|(simp (disch := omega) [b3, b4, b5, hc, xc, List.length_map, hn, hkn, hkl2, Nat.le_of_lt hkn];done)|omega|(simp;omega)|(simp [upL];assumption)|(simp (disch := omega) [b3, b4, b5, hc, xc, List.length_map, hn, hkn, hkl2, Nat.le_of_lt hkn, upL];done)|(simp (disch := omega) [b3, b4, b5, hc, xc, List.length_map, hn, hkn, hkl2, Nat.le_of_lt hkn, upL];assumption)
    ·simp only [List.getElem?_toArray, List.getElem?_cons_zero, List.getElem?_cons_succ, Option.some.injEq] at hoo
     subst hoo
     try simp only [Nat.zero_add, Nat.reduceAdd] at hxx ⊢
     have l6 : L 6 = true := hpp 6 (by simp [pre, Region.binds])
     have fc6 := c6 l6
     refine .e ?_ (by simp (disch := first|omega|(simp only[ln];omega)) [if_pos, b3, b4, b5, hc, xc, fc6, List.length_map, hn, hkn, hkl2, Nat.le_of_lt hkn]; rfl)
     refine ⟨i0, i5, i12, ?_, ?_, ?_, ?_, ?_, rfl, fun h => by rw [upL_ne L (by decide)] at h; obtain ⟨a1, a2, a3, a4⟩ := c0 h; exact ⟨by simp [a1], a2, by first|omega|(simp; omega), fun g => by rw [upL_ne L (by decide)] at g; first | (have := a4 g; simp (disch := omega) [this]; done) | (simp_all; done)⟩, ?_, ?_, ?_, ?_, fun h => by rw [upL_ne L (by decide)] at h; obtain ⟨a1, a2, a3, a4⟩ := c5 h; exact ⟨by simp [a1], a2, by first|omega|(simp; omega), fun g => by rw [upL_ne L (by decide)] at g; first | (have := a4 g; simp (disch := omega) [this]; done) | (simp_all; done)⟩, ?_, fun _ => ?_, ?_, ?_, ?_, ?_, fun h => by rw [upL_ne L (by decide)] at h; obtain ⟨a1, a2, a3, a4, a5⟩ := c12 h; exact ⟨by simp [a1], a2, by first|omega|(simp; omega), fun g => by rw [upL_ne L (by decide)] at g; first | (have := a4 g; simp (disch := omega) [this]; done) | (simp_all; done), fun g => by rw [upL_ne L (by decide)] at g; first | (have := a5 g; simp (disch := omega) [this]; done) | (simp_all; done)⟩⟩ <;> first|(simp (disch := omega) [b3, b4, b5, hc, xc, fc6, List.length_map, hn, hkn, hkl2, Nat.le_of_lt hkn];done)|omega|(simp;omega)|(simp [upL];assumption)|(simp (disch := omega) [b3, b4, b5, hc, xc, fc6, List.length_map, hn, hkn, hkl2, Nat.le_of_lt hkn, upL];done)|(simp (disch := omega) [b3, b4, b5, hc, xc, fc6, List.length_map, hn, hkn, hkl2, Nat.le_of_lt hkn, upL];assumption)
    ·simp only [List.getElem?_toArray, List.getElem?_cons_zero, List.getElem?_cons_succ, Option.some.injEq] at hoo
     subst hoo
     try simp only [Nat.zero_add, Nat.reduceAdd] at hxx ⊢
     refine .e ?_ (by simp (disch := first|omega|(simp only[ln];omega)) [if_pos, b3, b4, b5, hc, xc, List.length_map, hn, hkn, hkl2, Nat.le_of_lt hkn]; rfl)
     refine ⟨i0, i5, i12, ?_, ?_, ?_, ?_, ?_, rfl, fun h => by rw [upL_ne L (by decide)] at h; obtain ⟨a1, a2, a3, a4⟩ := c0 h; exact ⟨by simp [a1], a2, by first|omega|(simp; omega), fun g => by rw [upL_ne L (by decide)] at g; first | (have := a4 g; simp (disch := omega) [this]; done) | (simp_all; done)⟩, ?_, ?_, ?_, ?_, fun h => by rw [upL_ne L (by decide)] at h; obtain ⟨a1, a2, a3, a4⟩ := c5 h; exact ⟨by simp [a1], a2, by first|omega|(simp; omega), fun g => by rw [upL_ne L (by decide)] at g; first | (have := a4 g; simp (disch := omega) [this]; done) | (simp_all; done)⟩, ?_, ?_, fun _ => ?_, ?_, ?_, ?_, fun h => by rw [upL_ne L (by decide)] at h; obtain ⟨a1, a2, a3, a4, a5⟩ := c12 h; exact ⟨by simp [a1], a2, by first|omega|(simp; omega), fun g => by rw [upL_ne L (by decide)] at g; first | (have := a4 g; simp (disch := omega) [this]; done) | (simp_all; done), fun g => by rw [upL_ne L (by decide)] at g; first | (have := a5 g; simp (disch := omega) [this]; done) | (simp_all; done)⟩⟩ <;> first|(simp (disch := omega) [b3, b4, b5, hc, xc, List.length_map, hn, hkn, hkl2, Nat.le_of_lt hkn];done)|omega|(simp;omega)|(simp [upL];assumption)|(simp (disch := omega) [b3, b4, b5, hc, xc, List.length_map, hn, hkn, hkl2, Nat.le_of_lt hkn, upL];done)|(simp (disch := omega) [b3, b4, b5, hc, xc, List.length_map, hn, hkn, hkl2, Nat.le_of_lt hkn, upL];assumption)
    ·simp only [List.getElem?_toArray, List.getElem?_cons_zero, List.getElem?_cons_succ, Option.some.injEq] at hoo
     subst hoo
     try simp only [Nat.zero_add, Nat.reduceAdd] at hxx ⊢
     have l7 : L 7 = true := hpp 7 (by simp [pre, Region.binds])
     have fc7 := c7 l7
     have l8 : L 8 = true := hpp 8 (by simp [pre, Region.binds])
     have fc8 := c8 l8
     refine .e ?_ (by simp (disch := first|omega|(simp only[ln];omega)) [if_pos, b3, b4, b5, hc, xc, fc7, fc8, List.length_map, hn, hkn, hkl2, Nat.le_of_lt hkn]; rfl)
     refine ⟨i0, i5, i12, ?_, ?_, ?_, ?_, ?_, rfl, fun h => by rw [upL_ne L (by decide)] at h; obtain ⟨a1, a2, a3, a4⟩ := c0 h; exact ⟨by simp [a1], a2, by first|omega|(simp; omega), fun g => by rw [upL_ne L (by decide)] at g; first | (have := a4 g; simp (disch := omega) [this]; done) | (simp_all; done)⟩, ?_, ?_, ?_, ?_, fun h => by rw [upL_ne L (by decide)] at h; obtain ⟨a1, a2, a3, a4⟩ := c5 h; exact ⟨by simp [a1], a2, by first|omega|(simp; omega), fun g => by rw [upL_ne L (by decide)] at g; first | (have := a4 g; simp (disch := omega) [this]; done) | (simp_all; done)⟩, ?_, ?_, ?_, fun _ => by simp (disch := omega) [hn, hkl2, fc7, fc8, htkS, hEm], ?_, ?_, fun h => by rw [upL_ne L (by decide)] at h; obtain ⟨a1, a2, a3, a4, a5⟩ := c12 h; exact ⟨by simp [a1], a2, by first|omega|(simp; omega), fun g => by rw [upL_ne L (by decide)] at g; first | (have := a4 g; simp (disch := omega) [this]; done) | (simp_all; done), fun g => by rw [upL_ne L (by decide)] at g; first | (have := a5 g; simp (disch := omega) [this]; done) | (simp_all; done)⟩⟩ <;> first|(simp (disch := omega) [b3, b4, b5, hc, xc, fc7, fc8, List.length_map, hn, hkn, hkl2, Nat.le_of_lt hkn];done)|omega|(simp;omega)|(simp [upL];assumption)|(simp (disch := omega) [b3, b4, b5, hc, xc, fc7, fc8, List.length_map, hn, hkn, hkl2, Nat.le_of_lt hkn, upL];done)|(simp (disch := omega) [b3, b4, b5, hc, xc, fc7, fc8, List.length_map, hn, hkn, hkl2, Nat.le_of_lt hkn, upL];assumption)
    ·simp only [List.getElem?_toArray, List.getElem?_cons_zero, List.getElem?_cons_succ, Option.some.injEq] at hoo
     subst hoo
     try simp only [Nat.zero_add, Nat.reduceAdd] at hxx ⊢
     have l5 : L 5 = true := hpp 5 (by simp [pre, Region.binds])
     have fc5 := c5 l5
     have l9 : L 9 = true := hpp 9 (by simp [pre, Region.binds])
     have fc9 := c9 l9
     obtain ⟨f51, f52, f53, f54⟩ := id fc5
     replace f54 := f54 hxx
     have hc3 : n - k + k ≤ 9223372036854775807 := by omega
     have hc4 : (n - k + k) * 16 ≤ 140737488355328 := by omega
     refine AOPS.opapp (by simp (disch := first|omega|(simp only[ln];omega)) [opApp.eq_def, aSrc_isl, aSrc_osl, aSrc_nsl, aSrc_int, wd_app, wd_app2, if_pos, wd_append, wd_take, wd_drop, List.nil_append, b3, b4, b5, hc, xc, fc5, fc9, f51, List.length_map, hn, hkn, hkl2, Nat.le_of_lt hkn, f54, plnS3, hc3, hc4, hdl, hel, htk, src_Wd' (P := Try.prog) elT41]; first | rfl | exact ⟨rfl, rfl⟩ | exact ⟨rfl, rfl, rfl⟩) (by simp) (by simp) ?_
     simp only [puts_some, hdrop]
     refine AOPS.frz1 43 mm 2 (T.map Sp.cells) (.isl (T.map Sp.cells)) (by simp [hra2]) (by simp [hra2, hdl, hel, htT]) ?_
     refine AOPS.nil ?_
     refine ⟨i0, i5, i12, ?_, ?_, ?_, ?_, ?_, rfl, fun h => by rw [upL_ne L (by decide)] at h; obtain ⟨a1, a2, a3, a4⟩ := c0 h; exact ⟨by simp [a1], a2, by first|omega|(simp; omega), fun g => by rw [upL_ne L (by decide)] at g; first | (have := a4 g; simp (disch := omega) [this]; done) | (simp_all; done)⟩, ?_, ?_, ?_, ?_, fun h => by rw [upL_ne L (by decide)] at h; obtain ⟨a1, a2, a3, a4⟩ := c5 h; exact ⟨by simp [a1], a2, by first|omega|(simp; omega), fun g => by simp [upL] at g⟩, ?_, ?_, ?_, ?_, fun _ => ?_, ?_, fun h => by rw [upL_ne L (by decide)] at h; obtain ⟨a1, a2, a3, a4, a5⟩ := c12 h; have l13 : L 13 = false := hC.not hxx (k := 13) rfl (by simp [pre, Region.binds]); have b12 := a4 l13; have ne : i12 ≠ i5 := (by intro e; rw [e, f54] at b12; simp at b12); exact ⟨by simp [a1], a2, by first|omega|(simp; omega), fun g => by rw [upL_ne L (by decide)] at g; first | (have := a4 g; simp (disch := omega) [this]; done) | (simp_all; done), fun g => by rw [upL_ne L (by decide)] at g; first | (have := a5 g; simp (disch := omega) [this]; done) | (simp_all; done)⟩⟩ <;> first|(simp (disch := omega) [b3, b4, b5, hc, xc, fc5, fc9, f51, List.length_map, hn, hkn, hkl2, Nat.le_of_lt hkn];done)|omega|(simp;omega)|(simp [upL];assumption)|(simp (disch := omega) [b3, b4, b5, hc, xc, fc5, fc9, f51, List.length_map, hn, hkn, hkl2, Nat.le_of_lt hkn, upL];done)|(simp (disch := omega) [b3, b4, b5, hc, xc, fc5, fc9, f51, List.length_map, hn, hkn, hkl2, Nat.le_of_lt hkn, upL];assumption)
    ·simp only [List.getElem?_toArray, List.getElem?_cons_zero, List.getElem?_cons_succ, Option.some.injEq] at hoo
     subst hoo
     try simp only [Nat.zero_add, Nat.reduceAdd] at hxx ⊢
     have l10 : L 10 = true := hpp 10 (by simp [pre, Region.binds])
     have fc10 := c10 l10
     refine .e ?_ (by simp (disch := first|omega|(simp only[ln];omega)) [if_pos, b3, b4, b5, hc, xc, fc10, List.length_map, hn, hkn, hkl2, Nat.le_of_lt hkn]; rfl)
     refine ⟨i0, i5, i12, ?_, ?_, ?_, ?_, ?_, rfl, fun h => by rw [upL_ne L (by decide)] at h; obtain ⟨a1, a2, a3, a4⟩ := c0 h; exact ⟨by simp [a1], a2, by first|omega|(simp; omega), fun g => by rw [upL_ne L (by decide)] at g; first | (have := a4 g; simp (disch := omega) [this]; done) | (simp_all; done)⟩, ?_, ?_, ?_, ?_, fun h => by rw [upL_ne L (by decide)] at h; obtain ⟨a1, a2, a3, a4⟩ := c5 h; exact ⟨by simp [a1], a2, by first|omega|(simp; omega), fun g => by rw [upL_ne L (by decide)] at g; first | (have := a4 g; simp (disch := omega) [this]; done) | (simp_all; done)⟩, ?_, ?_, ?_, ?_, ?_, fun _ => ?_, fun h => by rw [upL_ne L (by decide)] at h; obtain ⟨a1, a2, a3, a4, a5⟩ := c12 h; exact ⟨by simp [a1], a2, by first|omega|(simp; omega), fun g => by rw [upL_ne L (by decide)] at g; first | (have := a4 g; simp (disch := omega) [this]; done) | (simp_all; done), fun g => by rw [upL_ne L (by decide)] at g; first | (have := a5 g; simp (disch := omega) [this]; done) | (simp_all; done)⟩⟩ <;> first|(simp (disch := omega) [b3, b4, b5, hc, xc, fc10, List.length_map, hn, hkn, hkl2, Nat.le_of_lt hkn];done)|omega|(simp;omega)|(simp [upL];assumption)|(simp (disch := omega) [b3, b4, b5, hc, xc, fc10, List.length_map, hn, hkn, hkl2, Nat.le_of_lt hkn, upL];done)|(simp (disch := omega) [b3, b4, b5, hc, xc, fc10, List.length_map, hn, hkn, hkl2, Nat.le_of_lt hkn, upL];assumption)
    ·simp only [List.getElem?_toArray, List.getElem?_cons_zero, List.getElem?_cons_succ, Option.some.injEq] at hoo
     subst hoo
     try simp only [Nat.zero_add, Nat.reduceAdd] at hxx ⊢
     refine .e ?_ (by simp (disch := first|omega|(simp only[ln];omega)) [if_pos, b3, b4, b5, hc, xc, List.length_map, hn, hkn, hkl2, Nat.le_of_lt hkn]; rfl)
     refine ⟨i0, i5, mm, ?_, ?_, ?_, ?_, ?_, rfl, fun h => by rw [upL_ne L (by decide)] at h; obtain ⟨a1, a2, a3, a4⟩ := c0 h; exact ⟨by simp [a1], a2, by first|omega|(simp; omega), fun g => by rw [upL_ne L (by decide)] at g; first | (have := a4 g; simp (disch := omega) [this]; done) | (simp_all; done)⟩, ?_, ?_, ?_, ?_, fun h => by rw [upL_ne L (by decide)] at h; obtain ⟨a1, a2, a3, a4⟩ := c5 h; exact ⟨by simp [a1], a2, by first|omega|(simp; omega), fun g => by rw [upL_ne L (by decide)] at g; first | (have := a4 g; simp (disch := omega) [this]; done) | (simp_all; done)⟩, ?_, ?_, ?_, ?_, ?_, ?_, fun _ => ⟨by simp, by omega, by simp, fun _ => by simp, fun g => by rw [upL_ne L (by decide)] at g; exact absurd (hC 13 _ g rfl 12 (by simp [pre, Region.binds])) (by simp [hxx])⟩⟩ <;> first|(simp (disch := omega) [b3, b4, b5, hc, xc, List.length_map, hn, hkn, hkl2, Nat.le_of_lt hkn];done)|omega|(simp;omega)|(simp [upL];assumption)|(simp (disch := omega) [b3, b4, b5, hc, xc, List.length_map, hn, hkn, hkl2, Nat.le_of_lt hkn, upL];done)|(simp (disch := omega) [b3, b4, b5, hc, xc, List.length_map, hn, hkn, hkl2, Nat.le_of_lt hkn, upL];assumption)
    ·simp only [List.getElem?_toArray, List.getElem?_cons_zero, List.getElem?_cons_succ, Option.some.injEq] at hoo
     subst hoo
     try simp only [Nat.zero_add, Nat.reduceAdd] at hxx ⊢
     have l0 : L 0 = true := hpp 0 (by simp [pre, Region.binds])
     have fc0 := c0 l0
     have l1 : L 1 = true := hpp 1 (by simp [pre, Region.binds])
     have fc1 := c1 l1
     have l2 : L 2 = true := hpp 2 (by simp [pre, Region.binds])
     have fc2 := c2 l2
     have l3 : L 3 = true := hpp 3 (by simp [pre, Region.binds])
     have fc3 := c3 l3
     have l4 : L 4 = true := hpp 4 (by simp [pre, Region.binds])
     have fc4 := c4 l4
     have l5 : L 5 = true := hpp 5 (by simp [pre, Region.binds])
     have fc5 := c5 l5
     have l6 : L 6 = true := hpp 6 (by simp [pre, Region.binds])
     have fc6 := c6 l6
     have l7 : L 7 = true := hpp 7 (by simp [pre, Region.binds])
     have fc7 := c7 l7
     have l8 : L 8 = true := hpp 8 (by simp [pre, Region.binds])
     have fc8 := c8 l8
     have l9 : L 9 = true := hpp 9 (by simp [pre, Region.binds])
     have fc9 := c9 l9
     have l10 : L 10 = true := hpp 10 (by simp [pre, Region.binds])
     have fc10 := c10 l10
     have l11 : L 11 = true := hpp 11 (by simp [pre, Region.binds])
     have fc11 := c11 l11
     have l12 : L 12 = true := hpp 12 (by simp [pre, Region.binds])
     have fc12 := c12 l12
     obtain ⟨f121, f122, f123, f124, f125⟩ := id fc12
     replace f124 := f124 hxx
     refine .e ?_ (by simp (disch := first|omega|(simp only[ln];omega)) [if_pos, b3, b4, b5, hc, xc, fc0, fc1, fc2, fc3, fc4, fc5, fc6, fc7, fc8, fc9, fc10, fc11, fc12, f121, f124, List.length_map, hn, hkn, hkl2, Nat.le_of_lt hkn]; rfl)
     refine ⟨i0, i5, i12, ?_, ?_, ?_, ?_, ?_, rfl, fun h => by rw [upL_ne L (by decide)] at h; obtain ⟨a1, a2, a3, a4⟩ := c0 h; exact ⟨by simp [a1], a2, by first|omega|(simp; omega), fun g => by rw [upL_ne L (by decide)] at g; first | (have := a4 g; simp (disch := omega) [this]; done) | (simp_all; done)⟩, ?_, ?_, ?_, ?_, fun h => by rw [upL_ne L (by decide)] at h; obtain ⟨a1, a2, a3, a4⟩ := c5 h; exact ⟨by simp [a1], a2, by first|omega|(simp; omega), fun g => by rw [upL_ne L (by decide)] at g; first | (have := a4 g; simp (disch := omega) [this]; done) | (simp_all; done)⟩, ?_, ?_, ?_, ?_, ?_, ?_, fun _ => ⟨by simp [f121], f122, by simp; omega, fun g => by simp [upL] at g, fun _ => by simp [f121, f124, fc11]⟩⟩ <;> first|(simp (disch := omega) [b3, b4, b5, hc, xc, fc0, fc1, fc2, fc3, fc4, fc5, fc6, fc7, fc8, fc9, fc10, fc11, fc12, f121, f124, List.length_map, hn, hkn, hkl2, Nat.le_of_lt hkn];done)|omega|(simp;omega)|(simp [upL];assumption)|(simp (disch := omega) [b3, b4, b5, hc, xc, fc0, fc1, fc2, fc3, fc4, fc5, fc6, fc7, fc8, fc9, fc10, fc11, fc12, f121, f124, List.length_map, hn, hkn, hkl2, Nat.le_of_lt hkn, upL];done)|(simp (disch := omega) [b3, b4, b5, hc, xc, fc0, fc1, fc2, fc3, fc4, fc5, fc6, fc7, fc8, fc9, fc10, fc11, fc12, f121, f124, List.length_map, hn, hkn, hkl2, Nat.le_of_lt hkn, upL];assumption)
    · simp at hoo
   ·rintro L ⟨e, H, mm, nt⟩ hL ⟨i0, i5, i12, b3, b4, b5, hc, xc, hnt, c0, c1, c2, c3, c4, c5, c6, c7, c8, c9, c10, c11, c12⟩
    replace c0 := c0 (hL 0 (by simp))
    replace c1 := c1 (hL 1 (by simp))
    replace c2 := c2 (hL 2 (by simp))
    replace c3 := c3 (hL 3 (by simp))
    replace c4 := c4 (hL 4 (by simp))
    replace c5 := c5 (hL 5 (by simp))
    replace c6 := c6 (hL 6 (by simp))
    replace c7 := c7 (hL 7 (by simp))
    replace c8 := c8 (hL 8 (by simp))
    replace c9 := c9 (hL 9 (by simp))
    replace c10 := c10 (hL 10 (by simp))
    replace c11 := c11 (hL 11 (by simp))
    replace c12 := c12 (hL 12 (by simp))
    simp only [] at b3 b4 b5 hc xc hnt c0 c1 c2 c3 c4 c5 c6 c7 c8 c9 c10 c11 c12
    subst hnt
    obtain ⟨g6, _, _, _, h12⟩ := c12
    replace h12 := h12 (hL 13 (by simp))
    refine hK11 _ ?_
    refine .sq fun K12 hK12 => ?_
    by_cases hz : rgF S = 0
    ·obtain ⟨_, _, _, hnd, _⟩ := rgF_zero hz
     have m1 : fmR T = fmR S := by rw [← hT]; exact fmR_rot hkl hnd (by omega)
     have tm := ringForm_fc T (by omega) (by omega)
     rw [m1] at tm
     have sm := ringForm_fc S (by omega) hz
     have sr := sameRing_fc (fmR S) (fmR S) (by rw [fmR_len]; omega) (by rw [fmR_len]; omega)
     rw [decide_eq_true rfl] at sr
     have tg := ringSegs_fc T (by omega) (by omega)
     have sg := ringSegs_fc S (by omega) hz
     have sdl := sds_len S
     have tdl := sds_len T
     refine .d 27 ?_
     refine .k 1 (fun fs13 hfs13 => ?_) (by simp (disch := first|omega|(simp only[ln];omega)) [runDf.eq_def, runF1, runF2, stepF.eq_def, updo.eq_def, hupo.eq_def, opSto1.eq_def, List.take_succ_cons, List.take_zero, b3, b4, hc, g6, h12, List.length_map, hTl, hn, sdl, tdl]; rfl)
     refine .f tf hb38 ?_ (ha := by simp (disch := first|omega|(simp only[ln];omega)) [idf_Wd', b3, b4, hc, g6, h12, List.length_map, hTl, hn, sdl, tdl])
     refine .k 4 (fun fs14 hfs14 => ?_) (by simp (disch := first|omega|(simp only[ln];omega)) [runDf.eq_def, runF1, runF2, stepF.eq_def, updo.eq_def, hupo.eq_def, opSto1.eq_def, List.take_succ_cons, List.take_zero, b3, b4, hc, g6, h12, List.length_map, hTl, hn, sdl, tdl]; rfl)
     refine .f ta hb40 ?_ (ha := by simp (disch := first|omega|(simp only[ln];omega)) [idf_Wd', b3, b4, hc, g6, h12, List.length_map, hTl, hn, sdl, tdl])
     refine .k 1 (fun fs15 hfs15 => ?_) (by simp (disch := first|omega|(simp only[ln];omega)) [runDf.eq_def, runF1, runF2, stepF.eq_def, updo.eq_def, hupo.eq_def, opSto1.eq_def, List.take_succ_cons, List.take_zero, b3, b4, hc, g6, h12, List.length_map, hTl, hn, sdl, tdl]; rfl)
     refine .f sa hb40 ?_ (ha := by simp (disch := first|omega|(simp only[ln];omega)) [idf_Wd', b3, b4, hc, g6, h12, List.length_map, hTl, hn, sdl, tdl])
     refine .k 4 (fun fs16 hfs16 => ?_) (by simp (disch := first|omega|(simp only[ln];omega)) [runDf.eq_def, runF1, runF2, stepF.eq_def, updo.eq_def, hupo.eq_def, opSto1.eq_def, List.take_succ_cons, List.take_zero, b3, b4, hc, g6, h12, List.length_map, hTl, hn, sdl, tdl]; rfl)
     refine .f tm hb42 ?_ (ha := by simp (disch := first|omega|(simp only[ln];omega)) [idf_Wd', b3, b4, hc, g6, h12, List.length_map, hTl, hn, sdl, tdl])
     refine .k 1 (fun fs17 hfs17 => ?_) (by simp (disch := first|omega|(simp only[ln];omega)) [runDf.eq_def, runF1, runF2, stepF.eq_def, updo.eq_def, hupo.eq_def, opSto1.eq_def, List.take_succ_cons, List.take_zero, b3, b4, hc, g6, h12, List.length_map, hTl, hn, sdl, tdl]; rfl)
     refine .f sm hb42 ?_ (ha := by simp (disch := first|omega|(simp only[ln];omega)) [idf_Wd', b3, b4, hc, g6, h12, List.length_map, hTl, hn, sdl, tdl])
     refine .f sr hb41 ?_ (ha := by simp (disch := first|omega|(simp only[ln];omega)) [idf_Wd', b3, b4, hc, g6, h12, List.length_map, hTl, hn, sdl, tdl])
     refine .k 3 (fun fs18 hfs18 => ?_) (by simp (disch := first|omega|(simp only[ln];omega)) [runDf.eq_def, runF1, runF2, stepF.eq_def, updo.eq_def, hupo.eq_def, opSto1.eq_def, List.take_succ_cons, List.take_zero, b3, b4, hc, g6, h12, List.length_map, hTl, hn, sdl, tdl]; rfl)
     refine .f tg hb20 ?_ (ha := by simp (disch := first|omega|(simp only[ln];omega)) [idf_Wd', b3, b4, hc, g6, h12, List.length_map, hTl, hn, sdl, tdl])
     refine .k 2 (fun fs19 hfs19 => ?_) (by simp (disch := first|omega|(simp only[ln];omega)) [runDf.eq_def, runF1, runF2, stepF.eq_def, updo.eq_def, hupo.eq_def, opSto1.eq_def, List.take_succ_cons, List.take_zero, b3, b4, hc, g6, h12, List.length_map, hTl, hn, sdl, tdl]; rfl)
     refine .f sg hb20 ?_ (ha := by simp (disch := first|omega|(simp only[ln];omega)) [idf_Wd', b3, b4, hc, g6, h12, List.length_map, hTl, hn, sdl, tdl])
     refine .k 3 (fun fs20 hfs20 => ?_) (by simp (disch := first|omega|(simp only[ln];omega)) [runDf.eq_def, runF1, runF2, stepF.eq_def, updo.eq_def, hupo.eq_def, opSto1.eq_def, List.take_succ_cons, List.take_zero, b3, b4, hc, g6, h12, List.length_map, hTl, hn, sdl, tdl]; rfl)
     refine .r 27 (by simp only[ln, hfs13, hfs14, hfs15, hfs16, hfs17, hfs18, hfs19, hfs20];omega) ?_ (by simp (disch := first|omega|(simp only[ln];omega)) [runDf.eq_def, runF1, runF2, stepF.eq_def, updo.eq_def, hupo.eq_def, opSto1.eq_def, b3, b4, hc, g6, h12, List.length_map, hTl, hn, sdl, tdl]; rfl)
     refine hK12 _ ?_
     refine .ret ?_
     exact hK _ _ _ _ trivial ((Fin.m))
    ·have tm := ringForm_no T (by omega) (by omega)
     have sm := ringForm_no S (by omega) hz
     have sr := sameRing_no
     have tg := ringSegs_no T (by omega) (by omega)
     have sg := ringSegs_no S (by omega) hz
     refine .d 27 ?_
     refine .k 1 (fun fs21 hfs21 => ?_) (by simp (disch := first|omega|(simp only[ln];omega)) [runDf.eq_def, runF1, runF2, stepF.eq_def, updo.eq_def, hupo.eq_def, opSto1.eq_def, List.take_succ_cons, List.take_zero, b3, b4, hc, g6, h12, List.length_map, hTl, hn]; rfl)
     refine .f tf hb38 ?_ (ha := by simp (disch := first|omega|(simp only[ln];omega)) [idf_Wd', b3, b4, hc, g6, h12, List.length_map, hTl, hn])
     refine .k 4 (fun fs22 hfs22 => ?_) (by simp (disch := first|omega|(simp only[ln];omega)) [runDf.eq_def, runF1, runF2, stepF.eq_def, updo.eq_def, hupo.eq_def, opSto1.eq_def, List.take_succ_cons, List.take_zero, b3, b4, hc, g6, h12, List.length_map, hTl, hn]; rfl)
     refine .f ta hb40 ?_ (ha := by simp (disch := first|omega|(simp only[ln];omega)) [idf_Wd', b3, b4, hc, g6, h12, List.length_map, hTl, hn])
     refine .k 1 (fun fs23 hfs23 => ?_) (by simp (disch := first|omega|(simp only[ln];omega)) [runDf.eq_def, runF1, runF2, stepF.eq_def, updo.eq_def, hupo.eq_def, opSto1.eq_def, List.take_succ_cons, List.take_zero, b3, b4, hc, g6, h12, List.length_map, hTl, hn]; rfl)
     refine .f sa hb40 ?_ (ha := by simp (disch := first|omega|(simp only[ln];omega)) [idf_Wd', b3, b4, hc, g6, h12, List.length_map, hTl, hn])
     refine .k 4 (fun fs24 hfs24 => ?_) (by simp (disch := first|omega|(simp only[ln];omega)) [runDf.eq_def, runF1, runF2, stepF.eq_def, updo.eq_def, hupo.eq_def, opSto1.eq_def, List.take_succ_cons, List.take_zero, b3, b4, hc, g6, h12, List.length_map, hTl, hn]; rfl)
     refine .f tm hb42 ?_ (ha := by simp (disch := first|omega|(simp only[ln];omega)) [idf_Wd', b3, b4, hc, g6, h12, List.length_map, hTl, hn])
     refine .k 1 (fun fs25 hfs25 => ?_) (by simp (disch := first|omega|(simp only[ln];omega)) [runDf.eq_def, runF1, runF2, stepF.eq_def, updo.eq_def, hupo.eq_def, opSto1.eq_def, List.take_succ_cons, List.take_zero, b3, b4, hc, g6, h12, List.length_map, hTl, hn]; rfl)
     refine .f sm hb42 ?_ (ha := by simp (disch := first|omega|(simp only[ln];omega)) [idf_Wd', b3, b4, hc, g6, h12, List.length_map, hTl, hn])
     refine .f sr hb41 ?_ (ha := by simp (disch := first|omega|(simp only[ln];omega)) [idf_Wd', b3, b4, hc, g6, h12, List.length_map, hTl, hn])
     refine .k 3 (fun fs26 hfs26 => ?_) (by simp (disch := first|omega|(simp only[ln];omega)) [runDf.eq_def, runF1, runF2, stepF.eq_def, updo.eq_def, hupo.eq_def, opSto1.eq_def, List.take_succ_cons, List.take_zero, b3, b4, hc, g6, h12, List.length_map, hTl, hn]; rfl)
     refine .f tg hb20 ?_ (ha := by simp (disch := first|omega|(simp only[ln];omega)) [idf_Wd', b3, b4, hc, g6, h12, List.length_map, hTl, hn])
     refine .k 2 (fun fs27 hfs27 => ?_) (by simp (disch := first|omega|(simp only[ln];omega)) [runDf.eq_def, runF1, runF2, stepF.eq_def, updo.eq_def, hupo.eq_def, opSto1.eq_def, List.take_succ_cons, List.take_zero, b3, b4, hc, g6, h12, List.length_map, hTl, hn]; rfl)
     refine .f sg hb20 ?_ (ha := by simp (disch := first|omega|(simp only[ln];omega)) [idf_Wd', b3, b4, hc, g6, h12, List.length_map, hTl, hn])
     refine .k 3 (fun fs28 hfs28 => ?_) (by simp (disch := first|omega|(simp only[ln];omega)) [runDf.eq_def, runF1, runF2, stepF.eq_def, updo.eq_def, hupo.eq_def, opSto1.eq_def, List.take_succ_cons, List.take_zero, b3, b4, hc, g6, h12, List.length_map, hTl, hn]; rfl)
     refine .r 27 (by simp only[ln, hfs21, hfs22, hfs23, hfs24, hfs25, hfs26, hfs27, hfs28];omega) ?_ (by simp (disch := first|omega|(simp only[ln];omega)) [runDf.eq_def, runF1, runF2, stepF.eq_def, updo.eq_def, hupo.eq_def, opSto1.eq_def, b3, b4, hc, g6, h12, List.length_map, hTl, hn]; rfl)
     refine hK12 _ ?_
     refine .ret ?_
     exact hK _ _ _ _ trivial ((Fin.m))
end

end Go.Proofs.Ytdcajfgeleopiaa
