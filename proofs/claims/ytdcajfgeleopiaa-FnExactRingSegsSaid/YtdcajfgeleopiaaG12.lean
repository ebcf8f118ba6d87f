/- Rings turned. -/
import Derived.Test.YtdcajfgeleopiaaG11

namespace Go.Proofs.Ytdcajfgeleopiaa
open Go Go.RowKit

/-- Rows of two numbers, as they are marked. -/
def m2 (k : Int) (j : Nat) : List AV := [.int .i64 (k + 2 * (j : Int)), .int .i64 (k + 2 * (j : Int) + 1)]
theorem lv_int (H : Heap) (k : Nat) (t : IntKind) (n : Int) : lv H k (.int t n) = .int t n := by cases k <;> rfl
theorem lv_bool (H : Heap) (k : Nat) (b : Bool) : lv H k (.bool b) = .bool b := by cases k <;> rfl
theorem lv_nsl (H : Heap) (k : Nat) : lv H k .nsl = .nsl := by cases k <;> rfl
theorem lv_sp (H : Heap) (k : Nat) : (List.map (lv H k) ∘ Sp.cells) = Sp.cells := by funext p; simp [Sp.cells, lv_int]
theorem lv_sg (H : Heap) (k : Nat) : (List.map (lv H k) ∘ Sg.cells) = Sg.cells := by funext p; simp [Sg.cells, lv_int]
theorem lv_m2 (H : Heap) (k : Nat) (c : Int) (n : Nat) : List.map (List.map (lv H k)) (mkR (m2 c) n) = mkR (m2 c) n := by
  unfold mkR; rw [List.map_map]; congr 1; funext j; simp [m2, lv_int]
end Go.Proofs.Ytdcajfgeleopiaa

/- Pairs of segments that meet. -/
namespace Go.Proofs.Ytdcajfgeleopiaa
open Go Go.RowKit

/-- Rows of four numbers, as they are marked. -/
def m4 (k : Int) (j : Nat) : List AV := [.int .i64 (k + 4 * (j : Int)), .int .i64 (k + 4 * (j : Int) + 1), .int .i64 (k + 4 * (j : Int) + 1 + 1), .int .i64 (k + 4 * (j : Int) + 1 + 1 + 1)]
theorem lv_m4 (H : Heap) (k : Nat) (c : Int) (n : Nat) : List.map (List.map (lv H k)) (mkR (m4 c) n) = mkR (m4 c) n := by
  unfold mkR; rw [List.map_map]; congr 1; funext j; simp [m4, lv_int]
end Go.Proofs.Ytdcajfgeleopiaa

/- Walks: rows of segments; FnExactQuiet, walked. -/
namespace Go.Proofs.Ytdcajfgeleopiaa
open Go Go.RowKit
set_option linter.unusedSimpArgs false
set_option linter.unusedVariables false
set_option maxRecDepth 100000
attribute [local simp] szT2 byT2 agT2 unT2 zoT2 szT3 byT3 agT3 unT3 zoT3 szT39 byT39 agT39 elT39 unT39 zoT39 szT102 byT102 agT102 flT102 fdT102_0 fdT102_1 zoT102 szT104 byT104 agT104 flT104 fdT104_0 fdT104_1 zoT104

section
attribute [local simp] Sp.av Sp.cells Sg.av Sg.cells
theorem eqSeg_fc (p : Sg) : FC Try.prog 70 [p.av, p.av] (.bool true) := by
 refine .b Try.func70 17 (fun nx K hK => ?_) (hi := by simp [idfL, idf, idfLL_iff, Sp.av, Sp.cells, Sg.av, Sg.cells])
 refine .q ?_
 refine .sq fun K2 hK2 => ?_
 refine .sq fun K3 hK3 => ?_
 refine .region ?_
 refine .kf 4 (eqSpot_fc p.a) hb124 ?_
 refine .e ?_
 refine hK3 _ ?_
 refine .c (fun h10 => ?_) (fun h10 => ?_)
 ·simp at h10
 ·try simp only[dc]at h10
  refine .skip ?_
  refine hK2 _ ?_
  refine .sq fun K4 hK4 => ?_
  refine .sq fun K5 hK5 => ?_
  refine .region ?_
  refine .kf 4 (eqSpot_fc p.b) hb124 ?_
  refine .e ?_
  refine hK5 _ ?_
  refine .c (fun h16 => ?_) (fun h16 => ?_)
  ·simp at h16
  ·try simp only[dc]at h16
   refine .skip ?_
   refine hK4 _ ?_
   refine .q ?_
   refine .ret ?_
   exact hK _ _ _ _ trivial ((Fin.m))
set_option maxHeartbeats 1000000 in
theorem eqSegS_fc (l : List Sg) (hl : l.length ≤ 9223372036854775807) : FC Try.prog 21 [.isl (l.map Sg.cells), .isl (l.map Sg.cells)] (.bool true) := by
 refine .b Try.func21 27 (fun nx K hK => ?_) (hi := by simp [idfL, idf, idfLL_iff, Sp.av, Sp.cells, Sg.av, Sg.cells])
 refine .q ?_
 refine .sq fun K2 hK2 => ?_
 refine .q ?_ (by simp (disch := first|omega|(simp only[ln];omega)) [List.length_map]; rfl)
 refine .c (fun h10 => ?_) (fun h10 => ?_)
 ·simp at h10
 ·try simp only[dc]at h10
  refine .skip ?_
  refine hK2 _ ?_
  refine .sq fun K4 hK4 => ?_
  refine .q ?_
  refine .block ?_
  
  refine .loop (fun N s => ∃ i : Nat, N = l.length - i ∧ i ≤ l.length ∧ s.env 0 = .isl (l.map Sg.cells) ∧ s.env 1 = .isl (l.map Sg.cells) ∧ s.env 5 = .int .i64 (i : Int) ∧ s.nt = 27) (l.length) (by refine ⟨0, by omega, by omega, ?_, ?_, ?_, rfl⟩ <;> first|(simp (disch := omega);done)|omega|(simp;done)|(simp;omega)) ?_
  rintro N ⟨e, H, mm, nt⟩ ⟨i, rfl, hi, g0, g1, g5, rfl⟩
  simp only [] at g0 g1 g5
  refine .sq fun K6 hK6 => ?_
  refine .q ?_ (by simp (disch := first|omega|(simp only[ln];omega)) [g0, g5, List.length_map]; rfl)
  refine .c (fun h14 => ?_) (fun h14 => ?_)
  ·try simp only[dc]at h14
   have hi' : i < l.length := by omega
   obtain ⟨p, hpi⟩ : ∃ p, l[i]? = some p := ⟨l[i], by simp [hi']⟩
   have hpm : (l.map Sg.cells)[i]? = some p.cells := by rw [List.getElem?_map, hpi]; rfl
   refine .skip ?_
   refine hK6 _ ?_
   refine .sq fun K8 hK8 => ?_
   refine .block ?_
   refine .sq fun K9 hK9 => ?_
   refine .d 10 ?_
   refine .k 8 (fun fs10 hfs10 => ?_) (by simp (disch := first|omega|(simp only[ln];omega)) [runDf.eq_def, runF1, runF2, stepF.eq_def, updo.eq_def, hupo.eq_def, opSto1.eq_def, List.take_succ_cons, List.take_zero, if_pos, g0, g1, g5, hpm, List.length_map]; rfl)
   refine .f (eqSeg_fc p) hb70 ?_ (ha := by simp (disch := first|omega|(simp only[ln];omega)) [idf_Wd', if_pos, g0, g1, g5, hpm, List.length_map])
   refine .k 1 (fun fs11 hfs11 => ?_) (by simp (disch := first|omega|(simp only[ln];omega)) [runDf.eq_def, runF1, runF2, stepF.eq_def, updo.eq_def, hupo.eq_def, opSto1.eq_def, List.take_succ_cons, List.take_zero, if_pos, g0, g1, g5, hpm, List.length_map]; rfl)
   refine .r 10 (by simp only[ln, hfs10, hfs11];omega) ?_ (by simp (disch := first|omega|(simp only[ln];omega)) [runDf.eq_def, runF1, runF2, stepF.eq_def, updo.eq_def, hupo.eq_def, opSto1.eq_def, if_pos, g0, g1, g5, hpm, List.length_map]; rfl)
   refine hK9 _ ?_
   refine .c (fun h26 => ?_) (fun h26 => ?_)
   ·simp at h26
   ·try simp only[dc]at h26
    refine .skip ?_
    refine hK8 _ ?_
    refine .r ?_ (by simp (disch := first|omega|(simp only[ln];omega)) [g5]; rfl)
    refine ⟨l.length - (i + 1), by omega, i + 1, rfl, by omega, ?_, ?_, ?_, rfl⟩ <;> first|(simp (disch := omega) [g0, g1, g5];done)|omega|(simp;done)|(simp;omega)
  ·try simp only[dc]at h14
   refine .exit ?_
   refine hK4 _ ?_
   refine .q ?_
   refine .ret ?_
   exact hK _ _ _ _ trivial ((Fin.m))
end

end Go.Proofs.Ytdcajfgeleopiaa

/- Walks: rings turned; rows of spots that are marked. -/
namespace Go.Proofs.Ytdcajfgeleopiaa
open Go Go.RowKit
set_option linter.unusedSimpArgs false
set_option linter.unusedVariables false
set_option maxRecDepth 100000
attribute [local simp] szT2 byT2 agT2 unT2 zoT2 szT3 byT3 agT3 unT3 zoT3 szT35 byT35 agT35 elT35 unT35 zoT35 szT37 byT37 agT37 flT37 fdT37_0 zoT37 szT41 byT41 agT41 elT41 unT41 zoT41 szT43 byT43 agT43 flT43 fdT43_0 zoT43 szT102 byT102 agT102 flT102 fdT102_0 fdT102_1 zoT102 szT158 byT158 agT158 flT158 fdT158_0 fdT158_1 zoT158

set_option maxHeartbeats 1000000 in
theorem toSpotS_own (l : List Sp) (hl : l.length ≤ 1048576) (nx : Nat) : ACall Try.prog 67 [.isl (l.map Sp.cells)] (fun _ => none) nx (own1 nx 2 (l.map Sp.cells) (fun id => .osl id 0 l.length)) := by
 refine .b Try.func67 23 fun K hK => ?_
 refine .q ?_
 refine .q ?_ (by simp (disch := first|omega|(simp only[ln];omega)) [if_pos, List.length_map]; rfl)
 refine .sq fun K3 hK3 => ?_
 refine .q ?_
 refine .block ?_
 refine .loop (fun N s => ∃ i id : Nat, N = l.length - i ∧ i ≤ l.length ∧ s.env 0 = .isl (l.map Sp.cells) ∧ s.env 3 = .osl id 0 l.length ∧ s.env 4 = .int .i64 (i : Int) ∧ s.heap id = some (2, fillR Sp.cells [.int .i64 0, .int .i64 0] l i) ∧ nx ≤ id ∧ id < s.nx ∧ s.nt = 23) (l.length) (⟨0, nx, by omega, by omega, by simp, by simp, by simp, by simp [← fillR_zero], by omega, by simp, rfl⟩) ?_
 rintro N ⟨e, H, mm, nt⟩ ⟨i, id, rfl, hi, h0, h3, h4, hH, hx1, hx2, rfl⟩
 simp only [] at h0 h3 h4 hH hx1 hx2
 refine .sq fun K5 hK5 => ?_
 refine .q ?_ (by simp (disch := first|omega|(simp only[ln];omega)) [h0, h4, List.length_map]; rfl)
 refine .c (fun h11 => ?_) (fun h11 => ?_)
 ·try simp only[dc]at h11
  have hi' : i < l.length := by omega
  obtain ⟨p, hpi⟩ : ∃ p, l[i]? = some p := ⟨l[i], by simp [hi']⟩
  have hpm : (l.map Sp.cells)[i]? = some p.cells := by rw [List.getElem?_map, hpi]; rfl
  have fst := fillR_set Sp.cells [.int .i64 0, .int .i64 0] l hpi
  simp only [Sp.cells] at fst
  have fl := fillR_len Sp.cells [.int .i64 0, .int .i64 0] l hi
  have fg := fillR_getE Sp.cells [.int .i64 0, .int .i64 0] l hi'
  refine .skip ?_
  refine hK5 _ ?_
  refine .sq fun K7 hK7 => ?_
  refine .block ?_
  refine .region ?_
  refine .kf 6 (toSpot_fc p) hb122 ?_ (by simp (disch := first|omega|(simp only[ln];omega)) [List.take_succ_cons, List.take_zero, if_pos, h0, h3, h4, hH, fl, fg, hpm, Sp.cells, Sg.cells, Sp.av, Sg.av, List.length_map]; rfl) (ha := by simp (disch := first|omega|(simp only[ln];omega)) [idf_Wd', if_pos, h0, h3, h4, hH, fl, fg, hpm, Sp.cells, Sg.cells, Sp.av, Sg.av, List.length_map])
  refine .e ?_ (by simp (disch := first|omega|(simp only[ln];omega)) [if_pos, h0, h3, h4, hH, fl, fg, hpm, Sp.cells, Sg.cells, Sp.av, Sg.av, List.length_map]; rfl)
  refine hK7 _ ?_
  refine .r ?_ (by simp (disch := first|omega|(simp only[ln];omega)) [h4]; rfl)
  refine ⟨l.length - (i + 1), by omega, i + 1, id, rfl, by omega, by simp [h0], by simp [h3], by simp (disch := omega) [h4], by simp [fst], hx1, by first | omega | (simp; done) | (simp; omega), rfl⟩
 ·try simp only[dc]at h11
  have hin : i = l.length := by omega
  rw [hin, fillR_all] at hH
  refine .exit ?_
  refine hK3 _ ?_
  refine .q ?_ (by simp (disch := first|omega|(simp only[ln];omega)) [h3]; rfl)
  refine .ret ?_
  exact hK _ _ _ _ _ trivial (Fin.own1 (Fin.mk (by simp (disch := omega) [aRes, aResL, aRes1]; try rfl)) (id := id) (by simp [hH])) (⟨id, by first | omega | (simp; done) | (simp; omega), by first | omega | (simp; done) | (simp; omega), rfl, rfl⟩)
section
attribute [local simp] Sp.av Sp.cells Sg.av Sg.cells
theorem toRing_own (r : List Sp) (hl : r.length ≤ 1048576) (nx : Nat) : ACall Try.prog 19 [.agg [.isl (r.map Sp.cells)]] (fun _ => none) nx (own1 nx 2 (r.map Sp.cells) (fun id => .agg [.osl id 0 r.length])) := by
 refine .b Try.func19 9 fun K hK => ?_
 refine .q ?_
 refine .q ?_
 refine .sq fun K3 hK3 => ?_
 refine .region ?_
 refine .k 2 ?_
 refine AOPS.ocallL 4 (toSpotS_own r hl _) rfl rfl rfl hb67 (by simp (disch := first|omega|(simp only[ln];omega)) [lv, idf_Wd']) (⟨fun _ h => by simp [nwr, nwrL]; try exact h, by simp [nwr, nwrL, Sp.cells, Sg.cells]⟩) (by simp (disch := first|omega|(simp only[ln];omega))) (by simp) ?_
 intro id nx2 hi1 hi2
 simp only [] at hi1 hi2
 simp only [puts_some, updo]
 refine .e ?_
 refine hK3 _ ?_
 refine .q ?_
 refine .ret ?_
 exact hK _ _ _ _ _ trivial (Fin.own1 (Fin.mk (by simp (disch := omega) [aRes, aResL, aRes1]; try rfl)) (id := id) (by simp (disch := omega))) (⟨id, by first | omega | (simp; done) | (simp; omega), by first | omega | (simp; done) | (simp; omega), rfl, rfl⟩)
set_option maxHeartbeats 1000000 in
theorem markSpotS_ac (n id : Nat) (es : List (List AV)) (k : Int) (HP : Heap) (nx : Nat) (hH : HP id = some (2, es)) (hn : es.length = n) (hw : ∀ row ∈ es, row.length = 2) (hk0 : 0 ≤ k) (hk1 : k ≤ 1000) (hn1 : n ≤ 1099511627776) : ACall Try.prog 72 [.osl id 0 n, .int .i64 k] HP nx (fun r H' nx' => r = .int .i64 (k + 2 * (n : Int)) ∧ H' = hupd HP id (some (2, mkR (m2 k) n)) ∧ nx' = nx) := by
 refine .b Try.func72 27 fun K hK => ?_
 refine .q ?_
 refine .sq fun K2 hK2 => ?_
 refine .q ?_
 refine .block ?_
 
 refine .loop (fun N s => ∃ i : Nat, N = n - i ∧ i ≤ n ∧ (s.heap = hupd HP id (some (2, cmR (m2 k) es i))) ∧ (s.nx = nx) ∧ s.env 0 = .osl id 0 n ∧ s.env 1 = .int .i64 (k + 2 * (i : Int)) ∧ s.env 5 = .int .i64 (i : Int) ∧ s.nt = 27) (n) (by refine ⟨0, by omega, by omega, by rw [cmR_zero]; exact (hupd_id hH).symm, rfl, ?_, ?_, ?_, rfl⟩ <;> first|(simp (disch := omega);done)|omega|(simp;done)|(simp;omega)|(simp (disch := omega) <;> omega)) ?_
 rintro N ⟨e, H, mm, nt⟩ ⟨i, rfl, hi, rfl, rfl, g0, g1, g5, rfl⟩
 simp only [] at g0 g1 g5
 refine .sq fun K4 hK4 => ?_
 refine .q ?_ (by simp (disch := first|omega|(simp only[ln];omega)) [g0, g5]; rfl)
 refine .c (fun h9 => ?_) (fun h9 => ?_)
 ·try simp only[dc]at h9
  have hi' : i < n := by omega
  obtain ⟨row, hrow⟩ : ∃ row, es[i]? = some row := ⟨es[i], by simp⟩
  have hrl := hw row (List.mem_of_getElem? hrow)
  obtain ⟨r0, r1, rfl⟩ : ∃ r0 r1, row = [r0, r1] := by
    match row, hrl with
    | [a, b], _ => exact ⟨a, b, rfl⟩
  have hget : (cmR (m2 k) es i)[i]? = some [r0, r1] := by rw [cmR_get]; exact hrow
  have hcl : (cmR (m2 k) es i).length = n := by rw [cmR_len _ _ (by omega)]; exact hn
  have hset : (cmR (m2 k) es i).set i [.int .i64 (k + 2 * (i : Int)), .int .i64 (k + 2 * (i : Int) + 1)] = cmR (m2 k) es (i + 1) := cmR_set (m2 k) es (i := i) (by omega)
  generalize cmR (m2 k) es i = C at *
  have hgE : ∀ h : i < C.length, C[i] = [r0, r1] := fun h => by rw [List.getElem?_eq_getElem h] at hget; simpa using hget
  refine .skip ?_
  refine hK4 _ ?_
  refine .sq fun K6 hK6 => ?_
  refine .block ?_
  refine .q ?_ (by simp (disch := first|omega|(simp only[ln];omega)) [if_pos, g0, g1, g5, hget, hcl, hgE]; rfl)
  refine .q ?_ (by simp (disch := first|omega|(simp only[ln];omega)) [g1]; rfl)
  refine .q ?_ (by simp (disch := first|omega|(simp only[ln];omega)) [if_pos, g0, g1, g5, hget, hcl, hgE]; rfl)
  refine .r ?_ (by simp (disch := first|omega|(simp only[ln];omega)) [g1]; rfl)
  refine hK6 _ ?_
  refine .r ?_ (by simp (disch := first|omega|(simp only[ln];omega)) [g5]; rfl)
  refine ⟨n - (i + 1), by omega, i + 1, rfl, by omega, by simp [hupd_same, List.set_set, hset], by simp, ?_, ?_, ?_, rfl⟩ <;> first|(simp (disch := omega) [g0, g1, g5];done)|omega|(simp;done)|(simp;omega)|(simp (disch := omega) [g0, g1, g5] <;> omega)
 ·try simp only[dc]at h9
  have hin : i = n := by omega
  subst hin
  subst hn
  refine .exit ?_
  refine hK2 _ ?_
  refine .q ?_ (by simp (disch := first|omega|(simp only[ln];omega)) [g1]; rfl)
  refine .ret ?_
  exact hK _ _ _ _ _ trivial ((Fin.m)) (⟨rfl, by rw [cmR_end], rfl⟩)
theorem markRing_ac (n id : Nat) (es : List (List AV)) (k : Int) (HP : Heap) (nx : Nat) (hH : HP id = some (2, es)) (hid : id < nx) (hn : es.length = n) (hw : ∀ row ∈ es, row.length = 2) (hk0 : 0 ≤ k) (hk1 : k ≤ 1000) (hn1 : n ≤ 1099511627776) : ACall Try.prog 23 [.agg [.osl id 0 n], .int .i64 k] HP nx (fun r H' nx' => r = .int .i64 (k + 2 * (n : Int)) ∧ H' id = some (2, mkR (m2 k) n) ∧ (∀ i, i < nx → i ≠ id → H' i = HP i) ∧ nx ≤ nx') := by
 refine .b Try.func23 10 fun K hK => ?_
 refine .q ?_
 refine .sq fun K2 hK2 => ?_
 refine .region ?_
 refine .k 3 ?_
 refine .a (markSpotS_ac n id es k _ _ (by simp (disch := omega) [hH]) hn hw hk0 hk1 hn1) hb72 ?_
 rintro _ _ _ ⟨rfl, rfl, rfl⟩
 refine .e ?_
 refine hK2 _ ?_
 refine .q ?_
 refine .ret ?_
 exact hK _ _ _ _ _ trivial ((Fin.m)) (⟨rfl, by simp (disch := omega), fun i h1 h2 => by simp (disch := omega) [h2], by simp⟩)
end

end Go.Proofs.Ytdcajfgeleopiaa

/- Walks: rows of segments marked and held; sides of a ring as an own row; FnExactRingSegs, walked. -/
namespace Go.Proofs.Ytdcajfgeleopiaa
open Go Go.RowKit
set_option linter.unusedSimpArgs false
set_option linter.unusedVariables false
set_option maxRecDepth 100000
attribute [local simp] szT2 byT2 agT2 unT2 zoT2 szT3 byT3 agT3 unT3 zoT3 szT39 byT39 agT39 elT39 unT39 zoT39 szT41 byT41 agT41 elT41 unT41 zoT41 szT43 byT43 agT43 flT43 fdT43_0 zoT43 szT102 byT102 agT102 flT102 fdT102_0 fdT102_1 zoT102 szT104 byT104 agT104 flT104 fdT104_0 fdT104_1 zoT104

theorem segrow_len (r : List Sg) : ∀ row ∈ r.map Sg.cells, row.length = 4 := by intro row h; obtain ⟨p, _, rfl⟩ := List.mem_map.1 h; rfl
theorem sprow_len (r : List Sp) : ∀ row ∈ r.map Sp.cells, row.length = 2 := by intro row h; obtain ⟨p, _, rfl⟩ := List.mem_map.1 h; rfl
theorem mkR_tk (f : Nat → List AV) (n : Nat) : List.take n (mkR f n) = mkR f n := List.take_of_length_le (by rw [mkR_len]; omega)

section
attribute [local simp] Sp.av Sp.cells Sg.av Sg.cells
set_option maxHeartbeats 1000000 in
theorem markSegS_ac (n id : Nat) (es : List (List AV)) (k : Int) (HP : Heap) (nx : Nat) (hH : HP id = some (4, es)) (hn : es.length = n) (hw : ∀ row ∈ es, row.length = 4) (hk0 : 0 ≤ k) (hk1 : k ≤ 1000) (hn1 : n ≤ 1099511627776) : ACall Try.prog 24 [.osl id 0 n, .int .i64 k] HP nx (fun r H' nx' => r = .int .i64 (k + 4 * (n : Int)) ∧ H' = hupd HP id (some (4, mkR (m4 k) n)) ∧ nx' = nx) := by
 refine .b Try.func24 45 fun K hK => ?_
 refine .q ?_
 refine .sq fun K2 hK2 => ?_
 refine .q ?_
 refine .block ?_
 
 refine .loop (fun N s => ∃ i : Nat, N = n - i ∧ i ≤ n ∧ (s.heap = hupd HP id (some (4, cmR (m4 k) es i))) ∧ (s.nx = nx) ∧ s.env 0 = .osl id 0 n ∧ s.env 1 = .int .i64 (k + 4 * (i : Int)) ∧ s.env 5 = .int .i64 (i : Int) ∧ s.nt = 45) (n) (by refine ⟨0, by omega, by omega, by rw [cmR_zero]; exact (hupd_id hH).symm, rfl, ?_, ?_, ?_, rfl⟩ <;> first|(simp (disch := omega);done)|omega|(simp;done)|(simp;omega)|(simp (disch := omega) <;> omega)) ?_
 rintro N ⟨e, H, mm, nt⟩ ⟨i, rfl, hi, rfl, rfl, g0, g1, g5, rfl⟩
 simp only [] at g0 g1 g5
 refine .sq fun K4 hK4 => ?_
 refine .q ?_ (by simp (disch := first|omega|(simp only[ln];omega)) [g0, g5]; rfl)
 refine .c (fun h9 => ?_) (fun h9 => ?_)
 ·try simp only[dc]at h9
  have hi' : i < n := by omega
  obtain ⟨row, hrow⟩ : ∃ row, es[i]? = some row := ⟨es[i], by simp⟩
  have hrl := hw row (List.mem_of_getElem? hrow)
  obtain ⟨r0, r1, r2, r3, rfl⟩ : ∃ r0 r1 r2 r3, row = [r0, r1, r2, r3] := by
    match row, hrl with
    | [a, b, c, d], _ => exact ⟨a, b, c, d, rfl⟩
  have hget : (cmR (m4 k) es i)[i]? = some [r0, r1, r2, r3] := by rw [cmR_get]; exact hrow
  have hcl : (cmR (m4 k) es i).length = n := by rw [cmR_len _ _ (by omega)]; exact hn
  have hset : (cmR (m4 k) es i).set i [.int .i64 (k + 4 * (i : Int)), .int .i64 (k + 4 * (i : Int) + 1), .int .i64 (k + 4 * (i : Int) + 1 + 1), .int .i64 (k + 4 * (i : Int) + 1 + 1 + 1)] = cmR (m4 k) es (i + 1) := cmR_set (m4 k) es (i := i) (by omega)
  generalize cmR (m4 k) es i = C at *
  have hgE : ∀ h : i < C.length, C[i] = [r0, r1, r2, r3] := fun h => by rw [List.getElem?_eq_getElem h] at hget; simpa using hget
  refine .skip ?_
  refine hK4 _ ?_
  refine .sq fun K6 hK6 => ?_
  refine .block ?_
  refine .q ?_ (by simp (disch := first|omega|(simp only[ln];omega)) [if_pos, g0, g1, g5, hget, hcl, hgE]; rfl)
  refine .q ?_ (by simp (disch := first|omega|(simp only[ln];omega)) [g1]; rfl)
  refine .q ?_ (by simp (disch := first|omega|(simp only[ln];omega)) [if_pos, g0, g1, g5, hget, hcl, hgE]; rfl)
  refine .q ?_ (by simp (disch := first|omega|(simp only[ln];omega)) [g1]; rfl)
  refine .q ?_ (by simp (disch := first|omega|(simp only[ln];omega)) [if_pos, g0, g1, g5, hget, hcl, hgE]; rfl)
  refine .q ?_ (by simp (disch := first|omega|(simp only[ln];omega)) [g1]; rfl)
  refine .q ?_ (by simp (disch := first|omega|(simp only[ln];omega)) [if_pos, g0, g1, g5, hget, hcl, hgE]; rfl)
  refine .r ?_ (by simp (disch := first|omega|(simp only[ln];omega)) [g1]; rfl)
  refine hK6 _ ?_
  refine .r ?_ (by simp (disch := first|omega|(simp only[ln];omega)) [g5]; rfl)
  refine ⟨n - (i + 1), by omega, i + 1, rfl, by omega, by simp [hupd_same, List.set_set, hset], by simp, ?_, ?_, ?_, rfl⟩ <;> first|(simp (disch := omega) [g0, g1, g5];done)|omega|(simp;done)|(simp;omega)|(simp (disch := omega) [g0, g1, g5] <;> omega)
 ·try simp only[dc]at h9
  have hin : i = n := by omega
  subst hin
  subst hn
  refine .exit ?_
  refine hK2 _ ?_
  refine .q ?_ (by simp (disch := first|omega|(simp only[ln];omega)) [g1]; rfl)
  refine .ret ?_
  exact hK _ _ _ _ _ trivial ((Fin.m)) (⟨rfl, by rw [cmR_end], rfl⟩)
set_option maxHeartbeats 2000000 in
theorem heldSegS_fc (n : Nat) (k : Int) (hk0 : 0 ≤ k) (hk1 : k ≤ 1000) (hn1 : n ≤ 1099511627776) : FC Try.prog 25 [.isl (mkR (m4 k) n), .int .i64 k] (.int .i64 (k + 4 * (n : Int))) := by
 refine .b Try.func25 53 (fun nx K hK => ?_) (hi := by simp [idfL, idf, idfLL_iff, mkR, m4])
 refine .q ?_
 refine .sq fun K2 hK2 => ?_
 refine .q ?_
 refine .block ?_
 
 refine .loop (fun N s => ∃ i : Nat, N = n - i ∧ i ≤ n ∧ s.env 0 = .isl (mkR (m4 k) n) ∧ s.env 1 = .int .i64 (k + 4 * (i : Int)) ∧ s.env 5 = .int .i64 (i : Int) ∧ s.nt = 53) (n) (by refine ⟨0, by omega, by omega, ?_, ?_, ?_, rfl⟩ <;> first|(simp (disch := omega);done)|omega|(simp;done)|(simp;omega)|(simp (disch := omega) <;> omega)) ?_
 rintro N ⟨e, H, mm, nt⟩ ⟨i, rfl, hi, g0, g1, g5, rfl⟩
 simp only [] at g0 g1 g5
 refine .sq fun K4 hK4 => ?_
 refine .q ?_ (by simp (disch := first|omega|(simp only[ln];omega)) [g0, g5, mkR_len]; rfl)
 refine .c (fun h9 => ?_) (fun h9 => ?_)
 ·try simp only[dc]at h9
  have hi' : i < n := by omega
  have hat : (mkR (m4 k) n)[i]? = some [.int .i64 (k + 4 * (i : Int)), .int .i64 (k + 4 * (i : Int) + 1), .int .i64 (k + 4 * (i : Int) + 1 + 1), .int .i64 (k + 4 * (i : Int) + 1 + 1 + 1)] := mkR_get (m4 k) hi'
  refine .skip ?_
  refine hK4 _ ?_
  refine .sq fun K6 hK6 => ?_
  refine .block ?_
  refine .sq fun K7 hK7 => ?_
  refine .q ?_ (by simp (disch := first|omega|(simp only[ln];omega)) [if_pos, g0, g1, g5, hat, mkR_len]; rfl)
  refine .c (fun h19 => ?_) (fun h19 => ?_)
  ·simp at h19
  ·try simp only[dc]at h19
   refine .skip ?_
   refine hK7 _ ?_
   refine .q ?_ (by simp (disch := first|omega|(simp only[ln];omega)) [g1]; rfl)
   refine .sq fun K10 hK10 => ?_
   refine .q ?_ (by simp (disch := first|omega|(simp only[ln];omega)) [if_pos, g0, g5, hat, mkR_len]; rfl)
   refine .c (fun h29 => ?_) (fun h29 => ?_)
   ·simp at h29
   ·try simp only[dc]at h29
    refine .skip ?_
    refine hK10 _ ?_
    refine .q ?_
    refine .sq fun K13 hK13 => ?_
    refine .q ?_ (by simp (disch := first|omega|(simp only[ln];omega)) [if_pos, g0, g5, hat, mkR_len]; rfl)
    refine .c (fun h39 => ?_) (fun h39 => ?_)
    ·simp at h39
    ·try simp only[dc]at h39
     refine .skip ?_
     refine hK13 _ ?_
     refine .q ?_
     refine .sq fun K16 hK16 => ?_
     refine .q ?_ (by simp (disch := first|omega|(simp only[ln];omega)) [if_pos, g0, g5, hat, mkR_len]; rfl)
     refine .c (fun h49 => ?_) (fun h49 => ?_)
     ·simp at h49
     ·try simp only[dc]at h49
      refine .skip ?_
      refine hK16 _ ?_
      refine .r ?_
      refine hK6 _ ?_
      refine .r ?_ (by simp (disch := first|omega|(simp only[ln];omega)) [g5]; rfl)
      refine ⟨n - (i + 1), by omega, i + 1, rfl, by omega, ?_, ?_, ?_, rfl⟩ <;> first|(simp (disch := omega) [g0, g1, g5];done)|omega|(simp;done)|(simp;omega)|(simp (disch := omega) [g0, g1, g5] <;> omega)
 ·try simp only[dc]at h9
  have hin : i = n := by omega
  subst hin
  refine .exit ?_
  refine hK2 _ ?_
  refine .q ?_ (by simp (disch := first|omega|(simp only[ln];omega)) [g1]; rfl)
  refine .ret ?_
  exact hK _ _ _ _ trivial ((Fin.m))
theorem markSegS_nil (k : Int) (hk0 : 0 ≤ k) (hk1 : k ≤ 1000) : FC Try.prog 24 [.isl [], .int .i64 k] (.int .i64 k) := by
 refine .b Try.func24 45 (fun nx K hK => ?_)
 refine .q ?_
 refine .sq fun K2 hK2 => ?_
 refine .q ?_
 refine .block ?_
 
 refine .loop (fun N s => ∃ i : Nat, N = 0 - i ∧ i ≤ 0 ∧ s.env 0 = .isl [] ∧ s.env 1 = .int .i64 k ∧ s.env 5 = .int .i64 (i : Int) ∧ s.nt = 45) (0) (by refine ⟨0, by omega, by omega, ?_, ?_, ?_, rfl⟩ <;> first|(simp (disch := omega);done)|omega|(simp;done)|(simp;omega)) ?_
 rintro N ⟨e, H, mm, nt⟩ ⟨i, rfl, hi, g0, g1, g5, rfl⟩
 simp only [] at g0 g1 g5
 refine .sq fun K4 hK4 => ?_
 refine .q ?_ (by simp (disch := first|omega|(simp only[ln];omega)) [g0, g5]; rfl)
 refine .c (fun h9 => ?_) (fun h9 => ?_)
 ·first | omega | (simp at h9; done) | (simp at h9; omega)
 ·try simp only[dc]at h9
  refine .exit ?_
  refine hK2 _ ?_
  refine .q ?_ (by simp (disch := first|omega|(simp only[ln];omega)) [g1]; rfl)
  refine .ret ?_
  exact hK _ _ _ _ trivial ((Fin.m))
theorem heldSegS_nil (k : Int) (hk0 : 0 ≤ k) (hk1 : k ≤ 1000) : FC Try.prog 25 [.isl [], .int .i64 k] (.int .i64 k) := by
 refine .b Try.func25 53 (fun nx K hK => ?_)
 refine .q ?_
 refine .sq fun K2 hK2 => ?_
 refine .q ?_
 refine .block ?_
 
 refine .loop (fun N s => ∃ i : Nat, N = 0 - i ∧ i ≤ 0 ∧ s.env 0 = .isl [] ∧ s.env 1 = .int .i64 k ∧ s.env 5 = .int .i64 (i : Int) ∧ s.nt = 53) (0) (by refine ⟨0, by omega, by omega, ?_, ?_, ?_, rfl⟩ <;> first|(simp (disch := omega);done)|omega|(simp;done)|(simp;omega)) ?_
 rintro N ⟨e, H, mm, nt⟩ ⟨i, rfl, hi, g0, g1, g5, rfl⟩
 simp only [] at g0 g1 g5
 refine .sq fun K4 hK4 => ?_
 refine .q ?_ (by simp (disch := first|omega|(simp only[ln];omega)) [g0, g5]; rfl)
 refine .c (fun h9 => ?_) (fun h9 => ?_)
 ·first | omega | (simp at h9; done) | (simp at h9; omega)
 ·try simp only[dc]at h9
  refine .exit ?_
  refine hK2 _ ?_
  refine .q ?_ (by simp (disch := first|omega|(simp only[ln];omega)) [g1]; rfl)
  refine .ret ?_
  exact hK _ _ _ _ trivial ((Fin.m))
set_option maxHeartbeats 1000000 in
theorem sides_own (r : List Sp) (hl : r.length ≤ 1099511627776) (nx : Nat) : ACall Try.prog 69 [.agg [.isl (r.map Sp.cells)]] (fun _ => none) nx (own1 nx 4 ((sds r).map Sg.cells) (fun id => .osl id 0 r.length)) := by
 refine .b Try.func69 32 fun K hK => ?_
 refine .q ?_
 refine .q ?_
 refine .sq fun K3 hK3 => ?_
 refine .q ?_ (by simp (disch := first|omega|(simp only[ln];omega)) [List.length_map]; rfl)
 refine .block ?_
 
 refine .loop (fun N s => ∃ i : Nat, ∃ id : Nat, N = r.length - i ∧ i ≤ r.length ∧ (nx < id) ∧ s.env 1 = .ptr nx 0 0 ∧ s.env 3 = .osl id 0 i ∧ s.env 8 = .isl (r.map Sp.cells) ∧ s.env 9 = .int .i64 (r.length : Int) ∧ s.env 10 = .int .i64 (i : Int) ∧ s.heap nx = some (1, [[.isl (r.map Sp.cells)]]) ∧ nx < s.nx ∧ s.heap id = some (4, ((sds r).take i).map Sg.cells) ∧ id < s.nx ∧ s.nt = 32) (r.length) (by refine ⟨0, nx + 1, by omega, by omega, by omega, ?_, ?_, ?_, ?_, ?_, ?_, ?_, ?_, ?_, rfl⟩ <;> first|(simp (disch := omega);done)|omega|(simp;done)|(simp;omega)) ?_
 rintro N ⟨e, H, mm, nt⟩ ⟨i, id, rfl, hi, hid, g1, g3, g8, g9, g10, Hr, xr, Ho, xo, rfl⟩
 simp only [] at g1 g3 g8 g9 g10 Hr xr Ho xo
 refine .q ?_ (by simp (disch := first|omega|(simp only[ln];omega)) [g9, g10]; rfl)
 refine .sq fun K6 hK6 => ?_
 refine .c (fun h11 => ?_) (fun h11 => ?_)
 ·try simp only[dc]at h11
  have hi' : i < r.length := by omega
  have hat := rg_at hi'
  obtain ⟨j, hj⟩ : ∃ j : Nat, j = (i + 1) % r.length := ⟨_, rfl⟩
  have hjl : j < r.length := by rw [hj]; exact nx1_lt hi'
  have htm : Int.tmod ((i : Int) + 1) (r.length : Int) = (j : Int) := by rw [hj]; exact ite_tmod hi'
  have hat2 := rg_at hjl
  have hnj : gs r j = nx1 r i := by rw [hj]; rfl
  have hst := sds_take hi'
  have hc1 : i ≤ min i (sds r).length := by rw [sds_len]; omega
  have hc2 : (i + 1) * 32 ≤ 140737488355328 := by omega
  have hc3 : i ≤ 9223372036854775806 := by omega
  have hne : ¬ r = [] := by intro h; rw [h] at hi'; simp at hi'
  have htk : ((sds r).take i).length = i := by rw [List.length_take, sds_len]; omega
  refine .skip ?_
  refine hK6 _ ?_
  refine .sq fun K7 hK7 => ?_
  refine .block ?_
  refine .q ?_ (by simp (disch := first|omega|(simp only[ln];omega)) [if_pos, g8, g10, hat, List.length_map]; rfl)
  refine AWP.drawT 14 Try.checked.mixed (by kernel_rfl) (by kernel_rfl) ?_
  simp only [List.take_succ_cons, List.take_zero, List.drop_succ_cons, List.drop_zero]
  refine .k 12 (fun fs9 hfs9 => ?_) (by simp (disch := first|omega|(simp only[ln];omega)) [runDf.eq_def, runF1, runF2, stepF.eq_def, updo.eq_def, hupo.eq_def, opSto1.eq_def, List.take_succ_cons, List.take_zero, if_pos, g1, g3, Hr, Ho, hat, hat2, htm, hne, htk, hc1, hc2, hc3, List.length_map]; rfl)
  refine .f (segOf_fc (gs r i) (gs r j)) hb123 ?_ (ha := by simp (disch := first|omega|(simp only[ln];omega)) [idf_Wd', if_pos, g1, g3, Hr, Ho, hat, hat2, htm, hne, htk, hc1, hc2, hc3, List.length_map])
  refine .k 1 (fun fs10 hfs10 => ?_) (by simp (disch := first|omega|(simp only[ln];omega)) [runDf.eq_def, runF1, runF2, stepF.eq_def, updo.eq_def, hupo.eq_def, opSto1.eq_def, List.take_succ_cons, List.take_zero, if_pos, g1, g3, Hr, Ho, hat, hat2, htm, hne, htk, hc1, hc2, hc3, List.length_map]; rfl)
  simp only [DP]
  refine AOPS.opapp (by simp (disch := first|omega|(simp only[ln];omega)) [opApp.eq_def, aSrc_isl, aSrc_osl, aSrc_nsl, aSrc_int, wd_app, wd_app2, if_pos, wd_append, wd_take, wd_drop, List.nil_append, g1, g3, Hr, Ho, hat, hat2, htm, hne, htk, hc1, hc2, hc3, List.length_map, src_Wd' (P := Try.prog) elT39]; first | rfl | exact ⟨rfl, rfl⟩ | exact ⟨rfl, rfl, rfl⟩) (by simp) (by simp) ?_
  simp only [puts_some, hdrop]
  refine .e ?_ (by simp (disch := first|omega|(simp only[ln];omega)) [if_pos, g1, g3, Hr, Ho, hat, hat2, htm, hne, htk, hc1, hc2, hc3, List.length_map]; rfl)
  refine hK7 _ ?_
  refine .r ?_ (by simp (disch := first|omega|(simp only[ln];omega)) [g10]; rfl)
  refine ⟨r.length - (i + 1), by omega, i + 1, mm + 1 + 14, rfl, by omega, by omega, ?_, ?_, ?_, ?_, ?_, ?_, ?_, ?_, ?_, rfl⟩ <;> first|(simp (disch := omega) [g1, g3, g8, g9, g10, Hr, Ho, hst, hnj, List.take_take];done)|omega|(simp;done)|(simp;omega)
 ·try simp only[dc]at h11
  have hin : i = r.length := by omega
  have htl : (sds r).take i = sds r := by rw [hin, ← sds_len r, List.take_length]
  rw [htl] at Ho
  subst hin
  refine .exit ?_
  refine hK3 _ ?_
  refine .q ?_ (by simp (disch := first|omega|(simp only[ln];omega)) [g3]; rfl)
  refine .ret ?_
  exact hK _ _ _ _ _ trivial (Fin.own1 (Fin.mk (by simp (disch := omega) [aRes, aResL, aRes1]; try rfl)) (id := id) (by simp [Ho])) (⟨id, by first | omega | (simp; done) | (simp; omega), by first | omega | (simp; done) | (simp; omega), rfl, rfl⟩)
set_option maxHeartbeats 1000000 in
theorem ringSegs_own (r : List Sp) (hl : r.length ≤ 1099511627776) (hz : rgF r = 0) (nx : Nat) : ACall Try.prog 20 [.agg [.isl (r.map Sp.cells)]] (fun _ => none) nx (own1 nx 4 ((sds r).map Sg.cells) (fun id => .osl id 0 r.length)) := by
 obtain ⟨z1, z2, _⟩ := rgF_zero hz
 have hd : decide (rgF r = 0) = true := decide_eq_true hz
 refine .b Try.func20 8 fun K hK => ?_
 refine .q ?_
 refine .sq fun K2 hK2 => ?_
 refine .sq fun K3 hK3 => ?_
 refine .region ?_
 refine .kf 1 (isRing_fc r hl) hb68 ?_ (by simp (disch := first|omega|(simp only[ln];omega)) [List.take_succ_cons, List.take_zero, hd]; rfl) (ha := by simp (disch := first|omega|(simp only[ln];omega)) [idf_Wd', hd])
 refine .e ?_ (by simp (disch := first|omega|(simp only[ln];omega)) [hd]; rfl)
 refine hK3 _ ?_
 refine .c (fun h5 => ?_) (fun h5 => ?_)
 ·simp at h5
 ·try simp only[dc]at h5
  refine .skip ?_
  refine hK2 _ ?_
  refine .sq fun K4 hK4 => ?_
  refine .region ?_
  refine .k 1 ?_
  refine AOPS.ocallL 4 (sides_own r hl _) rfl rfl rfl hb69 (by simp (disch := first|omega|(simp only[ln];omega)) [lv, idf_Wd', lv_sp, lv_sg, lv_m2, lv_int, lv_bool, lv_nsl, lv_m4, List.map_map, List.length_map]) (⟨fun _ h => by simp [nwr, nwrL]; try exact h, by simp [nwr, nwrL, Sp.cells, Sg.cells]⟩) (by simp (disch := first|omega|(simp only[ln];omega))) (by simp) ?_
  intro id nx2 hi1 hi2
  simp only [] at hi1 hi2
  simp only [puts_some, updo]
  refine .e ?_
  refine hK4 _ ?_
  refine .ret ?_
  exact hK _ _ _ _ _ trivial (Fin.own1 (Fin.mk (by simp (disch := omega) [aRes, aResL, aRes1]; try rfl)) (id := id) (by simp (disch := omega))) (⟨id, by first | omega | (simp; done) | (simp; omega), by first | omega | (simp; done) | (simp; omega), rfl, rfl⟩)
theorem ringSegs_no (r : List Sp) (hl : r.length ≤ 1099511627776) (hz : ¬ rgF r = 0) : FC Try.prog 20 [.agg [.isl (r.map Sp.cells)]] (.nsl) := by
 have hd : decide (rgF r = 0) = false := decide_eq_false hz
 refine .b Try.func20 8 (fun nx K hK => ?_) (hi := by simp [idfL, idf, idfLL_iff, Sp.av, Sp.cells, Sg.av, Sg.cells])
 refine .q ?_
 refine .sq fun K2 hK2 => ?_
 refine .sq fun K3 hK3 => ?_
 refine .region ?_
 refine .kf 1 (isRing_fc r hl) hb68 ?_ (by simp (disch := first|omega|(simp only[ln];omega)) [List.take_succ_cons, List.take_zero, hd]; rfl) (ha := by simp (disch := first|omega|(simp only[ln];omega)) [idf_Wd', hd])
 refine .e ?_ (by simp (disch := first|omega|(simp only[ln];omega)) [hd]; rfl)
 refine hK3 _ ?_
 refine .c (fun h5 => ?_) (fun h5 => ?_)
 ·try simp only[dc]at h5
  refine .q ?_
  refine .ret ?_
  exact hK _ _ _ _ trivial ((Fin.mk (by simp (disch := omega) [aRes, aResL, aRes1]; try rfl)))
 ·simp at h5
theorem ringSegsS_no (r : List Sp) (hl : r.length ≤ 1099511627776) (hz : ¬ rgF r = 0) : FC Try.prog 18 [.agg [.isl (r.map Sp.cells)]] (.isl []) := by
 have hd : decide (rgF r = 0) = false := decide_eq_false hz
 refine .b Try.func18 24 (fun nx K hK => ?_) (hi := by simp [idfL, idf, idfLL_iff, Sp.av, Sp.cells, Sg.av, Sg.cells])
 refine .q ?_
 refine .q ?_
 refine .sq fun K3 hK3 => ?_
 refine .sq fun K4 hK4 => ?_
 refine .region ?_
 refine .kf 1 (l5Ok_fc r hl) hb65 ?_ (by simp (disch := first|omega|(simp only[ln];omega)) [List.take_succ_cons, List.take_zero, hd]; rfl) (ha := by simp (disch := first|omega|(simp only[ln];omega)) [idf_Wd', hd])
 refine .e ?_ (by simp (disch := first|omega|(simp only[ln];omega)) [hd]; rfl)
 refine hK4 _ ?_
 refine .c (fun h8 => ?_) (fun h8 => ?_)
 ·try simp only[dc]at h8
  refine .q ?_
  refine .ret ?_
  exact hK _ _ _ _ trivial (((Fin.mk (r := .osl (nx + 1) 0 0) (by simp (disch := omega) [aRes, aResL, aRes1])).freeze (id := nx + 1) (z := 4) (es := []) (by simp)).cast (by simp [fz]))
 ·simp at h8
set_option maxHeartbeats 2000000 in
theorem ringSegsS_fc (r : List Sp) (hl : r.length ≤ 1099511627776) (hz : rgF r = 0) : FC Try.prog 18 [.agg [.isl (r.map Sp.cells)]] (.isl ((sds r).map Sg.cells)) := by
 obtain ⟨z1, z2, _⟩ := rgF_zero hz
 have hd : decide (rgF r = 0) = true := decide_eq_true hz
 refine .b Try.func18 24 (fun nx K hK => ?_) (hi := by simp [idfL, idf, idfLL_iff, Sp.av, Sp.cells, Sg.av, Sg.cells]) (hr := by simp [idf, idfLL_iff, Sg.cells, idfL])
 refine .q ?_
 refine .q ?_
 refine .sq fun K3 hK3 => ?_
 refine .sq fun K4 hK4 => ?_
 refine .region ?_
 refine .kf 1 (l5Ok_fc r hl) hb65 ?_ (by simp (disch := first|omega|(simp only[ln];omega)) [List.take_succ_cons, List.take_zero, hd]; rfl) (ha := by simp (disch := first|omega|(simp only[ln];omega)) [idf_Wd', hd])
 refine .e ?_ (by simp (disch := first|omega|(simp only[ln];omega)) [hd]; rfl)
 refine hK4 _ ?_
 refine .c (fun h8 => ?_) (fun h8 => ?_)
 ·simp at h8
 ·try simp only[dc]at h8
  refine .skip ?_
  refine hK3 _ ?_
  refine .sq fun K5 hK5 => ?_
  refine .q ?_
  refine .block ?_
  
  refine .loop (fun N s => ∃ i : Nat, ∃ id : Nat, N = r.length - i ∧ i ≤ r.length ∧ (nx < id) ∧ s.env 1 = .ptr nx 0 0 ∧ s.env 3 = .osl id 0 i ∧ s.env 4 = .int .i64 (i : Int) ∧ s.heap nx = some (1, [[.isl (r.map Sp.cells)]]) ∧ nx < s.nx ∧ s.heap id = some (4, ((sds r).take i).map Sg.cells) ∧ id < s.nx ∧ s.nt = 24) (r.length) (by refine ⟨0, nx + 1, by omega, by omega, by omega, ?_, ?_, ?_, ?_, ?_, ?_, ?_, rfl⟩ <;> first|(simp (disch := omega);done)|omega|(simp;done)|(simp;omega)) ?_
  rintro N ⟨e, H, mm, nt⟩ ⟨i, id, rfl, hi, hid, g1, g3, g4, Hr, xr, Ho, xo, rfl⟩
  simp only [] at g1 g3 g4 Hr xr Ho xo
  refine .sq fun K7 hK7 => ?_
  refine .q ?_ (by simp (disch := first|omega|(simp only[ln];omega)) [g1, g4, Hr, List.length_map]; rfl)
  refine .c (fun h14 => ?_) (fun h14 => ?_)
  ·try simp only[dc]at h14
   have hi' : i < r.length := by omega
   have ks := l5Side_fc r i hi' hl
   have hst := sds_take hi'
   rw [show segO (gs r i) (nx1 r i) = sd r i from rfl] at hst
   have htk : ((sds r).take i).length = i := by rw [List.length_take, sds_len]; omega
   have hc1 : i ≤ min i (sds r).length := by rw [sds_len]; omega
   have hc2 : (i + 1) * 32 ≤ 140737488355328 := by omega
   have hc3 : i ≤ 9223372036854775806 := by omega
   refine .skip ?_
   refine hK7 _ ?_
   refine .sq fun K9 hK9 => ?_
   refine .block ?_
   refine .region ?_
   refine .kf 3 ks hb66 ?_ (by simp (disch := first|omega|(simp only[ln];omega)) [List.take_succ_cons, List.take_zero, g1, g3, g4, Hr, Ho, htk, hc1, hc2, hc3, List.length_map]; rfl) (ha := by simp (disch := first|omega|(simp only[ln];omega)) [idf_Wd', g1, g3, g4, Hr, Ho, htk, hc1, hc2, hc3, List.length_map])
   refine .k 1 ?_ (by simp (disch := first|omega|(simp only[ln];omega)) [List.take_succ_cons, List.take_zero, g1, g3, g4, Hr, Ho, htk, hc1, hc2, hc3, List.length_map]; rfl)
   refine AOPS.opapp (by simp (disch := first|omega|(simp only[ln];omega)) [opApp.eq_def, aSrc_isl, aSrc_osl, aSrc_nsl, aSrc_int, wd_app, wd_app2, if_pos, wd_append, wd_take, wd_drop, List.nil_append, g1, g3, g4, Hr, Ho, htk, hc1, hc2, hc3, List.length_map, src_Wd' (P := Try.prog) elT39]; first | rfl | exact ⟨rfl, rfl⟩ | exact ⟨rfl, rfl, rfl⟩) (by simp) (by simp) ?_
   simp only [puts_some, hdrop]
   refine .e ?_ (by simp (disch := first|omega|(simp only[ln];omega)) [g1, g3, g4, Hr, Ho, htk, hc1, hc2, hc3, List.length_map]; rfl)
   refine hK9 _ ?_
   refine .r ?_ (by simp (disch := first|omega|(simp only[ln];omega)) [g4]; rfl)
   refine ⟨r.length - (i + 1), by omega, i + 1, mm + 1, rfl, by omega, by omega, ?_, ?_, ?_, ?_, ?_, ?_, ?_, rfl⟩ <;> first|(simp (disch := omega) [g1, g3, g4, Hr, Ho, hst, List.take_take];done)|omega|(simp;done)|(simp;omega)
  ·try simp only[dc]at h14
   have hin : i = r.length := by omega
   have htl : (sds r).take i = sds r := by rw [hin, ← sds_len r, List.take_length]
   rw [htl] at Ho
   subst hin
   refine .exit ?_
   refine hK5 _ ?_
   refine .q ?_ (by simp (disch := first|omega|(simp only[ln];omega)) [g3]; rfl)
   refine .ret ?_
   exact hK _ _ _ _ trivial (((Fin.mk (r := .osl id 0 r.length) (by simp [aRes, aResL, aRes1])).freeze (id := id) (z := 4) (es := (sds r).map Sg.cells) (by simp [Ho])).cast (by rw [fz_fill _ _ (sds_len r).symm]))
end

theorem nsl4 {w : World} {β : Nat → Option Loc} {b : Nat → Bool} {v : Value} (h : VR w β b .nsl v) : VR w β b (.isl []) v := ⟨none, 0, 4, [], h, by simp, rfl, by intro e vs h; simp at h⟩
theorem markSegS_nil2 (k : Int) (hk0 : 0 ≤ k) (hk1 : k ≤ 1000) : FC Try.prog 24 [.nsl, .int .i64 k] (.int .i64 k) := (markSegS_nil k hk0 hk1).args fun w β b vs h => by
  obtain ⟨v, r, e, h1, h2⟩ := h
  exact ⟨v, r, e, nsl4 h1, h2⟩
theorem heldSegS_nil2 (k : Int) (hk0 : 0 ≤ k) (hk1 : k ≤ 1000) : FC Try.prog 25 [.nsl, .int .i64 k] (.int .i64 k) := (heldSegS_nil k hk0 hk1).args fun w β b vs h => by
  obtain ⟨v, r, e, h1, h2⟩ := h
  exact ⟨v, r, e, nsl4 h1, h2⟩
theorem eqSegS_nil2 : FC Try.prog 21 [.nsl, .isl []] (.bool true) := (eqSegS_fc [] (by simp)).args fun w β b vs h => by
  obtain ⟨v, r, e, h1, h2⟩ := h
  exact ⟨v, r, e, nsl4 h1, h2⟩

end Go.Proofs.Ytdcajfgeleopiaa

/- Walks: FnExactRingSegs, walked: the law. -/
namespace Go.Proofs.Ytdcajfgeleopiaa
open Go Go.RowKit
set_option linter.unusedSimpArgs false
set_option linter.unusedVariables false
set_option maxRecDepth 100000
attribute [local simp] szT3 byT3 agT3 unT3 zoT3 szT35 byT35 agT35 elT35 unT35 zoT35 szT37 byT37 agT37 flT37 fdT37_0 zoT37 szT41 byT41 agT41 elT41 unT41 zoT41 szT43 byT43 agT43 flT43 fdT43_0 zoT43

section
attribute [local simp] Sp.av Sp.cells Sg.av Sg.cells
set_option maxHeartbeats 4000000 in
theorem fnExactRingSegs_yes (r : List Sp) (hl : r.length ≤ 9223372036854775807) (hz : rgF r = 0) : FC Try.prog 4 [.agg [.isl (r.map Sp.cells)]] (.bool true) := by
 refine .b Try.func4 69 (fun nx K hK => ?_) (hi := by simp [idfL, idf, idfLL_iff, Sp.av, Sp.cells, Sg.av, Sg.cells])
 refine .q ?_
 refine .q ?_
 refine .sq fun K3 hK3 => ?_
 refine .region ?_
 refine .kf 2 (szRing_fc r 1048576 (by omega) (by omega) hl) hb17 ?_
 refine .e ?_
 refine hK3 _ ?_
 refine .sq fun K4 hK4 => ?_
 refine .q ?_
 refine .c (t := decide (szN r.length 1048576 < 0)) (fun h15 => ?_) (fun h15 => ?_)
 ·try simp only[dc]at h15
  refine .q ?_
  refine .ret ?_
  exact hK _ _ _ _ trivial ((Fin.m))
 ·try simp only[dc]at h15
  obtain ⟨k1, _⟩ := szN_le h15
  have k2 : r.length ≤ 1048576 := by omega
  have k3 : r.length ≤ 1099511627776 := by omega
  obtain ⟨n, hrl⟩ : ∃ n, r.length = n := ⟨_, rfl⟩
  have htl : (sds r).length = n := by rw [sds_len]; exact hrl
  have tkR : List.take n (List.map Sp.cells r) = List.map Sp.cells r := List.take_of_length_le (by rw [List.length_map]; omega)
  have tkT : List.take n (List.map Sg.cells (sds r)) = List.map Sg.cells (sds r) := List.take_of_length_le (by rw [List.length_map]; omega)
  have own0 := fun nx => toRing_own r k2 nx
  have own1' := fun nx => ringSegs_own r k3 hz nx
  rw [hrl] at own0 own1'
  have neg1 : decide (1 + 2 * (n : Int) < 0) = false := by simp; omega
  have neg4 : decide (1 + 4 * (n : Int) < 0) = false := by simp; omega
  refine .skip ?_
  refine hK4 _ ?_
  refine .sq fun K7 hK7 => ?_
  refine .region ?_
  refine .kf 1 (toRing_fc r k2) hb19 ?_
  refine .f (ringSegsS_fc r k3 hz) hb18 ?_
  refine .e ?_
  refine hK7 _ ?_
  refine .sq fun K8 hK8 => ?_
  refine .region ?_
  refine .k 1 ?_
  refine AOPS.ocallL 4 (own0 _) rfl rfl rfl hb19 (by simp (disch := first|omega|(simp only[ln];omega)) [lv, idf_Wd', lv_sp, lv_sg, lv_m2, lv_int, lv_bool, lv_nsl, lv_m4, List.map_map, List.length_map, hrl, htl, tkR, tkT, mkR_len, mkR_tk]) (⟨fun _ h => by simp [nwr, nwrL]; try exact h, by simp [nwr, nwrL, Sp.cells, Sg.cells]⟩) (by simp (disch := first|omega|(simp only[ln];omega))) (by simp) ?_
  intro ix nx2 nx2a nx2b
  simp only [] at nx2a nx2b
  simp only [puts_some, updo]
  refine .e ?_
  refine hK8 _ ?_
  refine .sq fun K9 hK9 => ?_
  refine .region ?_
  refine .k 1 ?_
  refine AOPS.ocallL 4 (own1' _) rfl rfl rfl hb20 (by simp (disch := first|omega|(simp only[ln];omega)) [lv, idf_Wd', lv_sp, lv_sg, lv_m2, lv_int, lv_bool, lv_nsl, lv_m4, List.map_map, List.length_map, hrl, htl, tkR, tkT, mkR_len, mkR_tk]) (⟨fun _ h => by simp [nwr, nwrL]; try exact h, by simp [nwr, nwrL, Sp.cells, Sg.cells]⟩) (by simp (disch := first|omega|(simp only[ln];omega))) (by simp) ?_
  intro ig nx3 nx3a nx3b
  simp only [] at nx3a nx3b
  simp only [puts_some, updo]
  refine .e ?_
  refine hK9 _ ?_
  refine .sq fun K10 hK10 => ?_
  refine .sq fun K11 hK11 => ?_
  refine .region ?_
  refine .k 2 ?_ (by simp (disch := first|omega|(simp only[ln];omega)) [List.take_succ_cons, List.take_zero, hrl, htl]; rfl)
  refine AOPS.lcall 4 (eqSegS_fc (sds r) (by omega)) rfl rfl rfl hb21 (by simp (disch := first|omega|(simp only[ln];omega)) [lv, idf_Wd', lv_sp, lv_sg, lv_m2, lv_int, lv_bool, lv_nsl, lv_m4, List.map_map, List.length_map, hrl, htl, tkR, tkT, mkR_len, mkR_tk, hrl, htl]) (by simp [atm, atmL]) (by simp (disch := first|omega|(simp only[ln];omega)) [hrl, htl]) (by simp) ?_
  simp only [puts_some, updo]
  refine .e ?_ (by simp (disch := first|omega|(simp only[ln];omega)) [hrl, htl]; rfl)
  refine hK11 _ ?_
  refine .c (fun h26 => ?_) (fun h26 => ?_)
  ·simp at h26
  ·try simp only[dc]at h26
   refine .skip ?_
   refine hK10 _ ?_
   refine .sq fun K12 hK12 => ?_
   refine .sq fun K13 hK13 => ?_
   refine AWP.drawT 3 Try.checked.mixed (by kernel_rfl) (by kernel_rfl) ?_
   simp only [List.take_succ_cons, List.take_zero, List.drop_succ_cons, List.drop_zero]
   refine .k 2 (fun fs14 hfs14 => ?_) (by simp (disch := first|omega|(simp only[ln];omega)) [runDf.eq_def, runF1, runF2, stepF.eq_def, updo.eq_def, hupo.eq_def, opSto1.eq_def, List.take_succ_cons, List.take_zero, hrl, htl]; rfl)
   refine .f (toRing_fc r k2) hb19 ?_ (ha := by simp (disch := first|omega|(simp only[ln];omega)) [idf_Wd', hrl, htl])
   simp only [DP]
   refine AOPS.lcall 4 (eqRing_fc r hl) rfl rfl rfl hb22 (by simp (disch := first|omega|(simp only[ln];omega)) [lv, idf_Wd', lv_sp, lv_sg, lv_m2, lv_int, lv_bool, lv_nsl, lv_m4, List.map_map, List.length_map, hrl, htl, tkR, tkT, mkR_len, mkR_tk, hrl, htl]) (by simp [atm, atmL]) (by simp (disch := first|omega|(simp only[ln];omega)) [hrl, htl]) (by simp) ?_
   simp only [puts_some, updo]
   refine .e ?_ (by simp (disch := first|omega|(simp only[ln];omega)) [hrl, htl]; rfl)
   refine hK13 _ ?_
   refine .c (fun h31 => ?_) (fun h31 => ?_)
   ·simp at h31
   ·try simp only[dc]at h31
    refine .skip ?_
    refine hK12 _ ?_
    refine .q ?_
    refine .sq fun K16 hK16 => ?_
    have J16 : ∀ s : St, (∃ ig : Nat, (nx < ig) ∧ s.env 1 = .ptr nx 0 0 ∧ s.env 4 = .isl ((sds r).map Sg.cells) ∧ s.env 6 = .osl ig 0 n ∧ s.env 7 = .int .i64 (1 + 2 * (n : Int)) ∧ s.heap nx = some (1, [[.isl (r.map Sp.cells)]]) ∧ nx < s.nx ∧ s.heap ig = some (4, (sds r).map Sg.cells) ∧ ig < s.nx ∧ s.nt = 69) → K16 s := by
     rintro ⟨e, H, mm, nt⟩ ⟨ig, sep, g1, g4, g6, g7, Hr, xr, HG, xG, rfl⟩
     simp only [] at g1 g4 g6 g7 Hr xr HG xG
     refine hK16 _ ?_
     refine .sq fun K17 hK17 => ?_
     refine .sq fun K18 hK18 => ?_
     refine .region ?_
     refine .k 5 ?_ (by simp (disch := first|omega|(simp only[ln];omega)) [List.take_succ_cons, List.take_zero, g1, g4, g6, g7, Hr, HG, neg1]; rfl)
     refine AOPS.lcall 4 (eqSegS_fc (sds r) (by omega)) rfl rfl rfl hb21 (by simp (disch := first|omega|(simp only[ln];omega)) [lv, idf_Wd', lv_sp, lv_sg, lv_m2, lv_int, lv_bool, lv_nsl, lv_m4, List.map_map, List.length_map, hrl, htl, tkR, tkT, mkR_len, mkR_tk, g1, g4, g6, g7, Hr, HG, neg1]) (by simp [atm, atmL]) (by simp (disch := first|omega|(simp only[ln];omega)) [g1, g4, g6, g7, Hr, HG, neg1]) (by simp) ?_
     simp only [puts_some, updo]
     refine .e ?_ (by simp (disch := first|omega|(simp only[ln];omega)) [g1, g4, g6, g7, Hr, HG, neg1]; rfl)
     refine hK18 _ ?_
     refine .c (fun h42 => ?_) (fun h42 => ?_)
     ·simp at h42
     ·try simp only[dc]at h42
      refine .skip ?_
      refine hK17 _ ?_
      refine .q ?_
      refine .sq fun K20 hK20 => ?_
      have J20 : ∀ s : St, (∃ ig : Nat, (nx < ig) ∧ s.env 1 = .ptr nx 0 0 ∧ s.env 4 = .isl ((sds r).map Sg.cells) ∧ s.env 6 = .osl ig 0 n ∧ s.env 8 = .int .i64 (1 + 4 * (n : Int)) ∧ s.heap nx = some (1, [[.isl (r.map Sp.cells)]]) ∧ nx < s.nx ∧ s.heap ig = some (4, mkR (m4 1) n) ∧ ig < s.nx ∧ s.nt = 69) → K20 s := by
       clear g1 g4 g6 g7 Hr xr HG xG sep
       rintro ⟨e, H, mm, nt⟩ ⟨ig, sep, g1, g4, g6, g8, Hr, xr, HG, xG, rfl⟩
       simp only [] at g1 g4 g6 g8 Hr xr HG xG
       refine hK20 _ ?_
       refine .q ?_
       refine .sq fun K22 hK22 => ?_
       refine .region ?_
       refine .k 2 ?_ (by simp (disch := first|omega|(simp only[ln];omega)) [List.take_succ_cons, List.take_zero, g1, g4, g6, g8, Hr, HG]; rfl)
       refine AOPS.lcall 4 (heldSegS_fc n 1 (by omega) (by omega) (by omega)) rfl rfl rfl hb25 (by simp (disch := first|omega|(simp only[ln];omega)) [lv, idf_Wd', lv_sp, lv_sg, lv_m2, lv_int, lv_bool, lv_nsl, lv_m4, List.map_map, List.length_map, hrl, htl, tkR, tkT, mkR_len, mkR_tk, g1, g4, g6, g8, Hr, HG]) (by simp [atm, atmL]) (by simp (disch := first|omega|(simp only[ln];omega)) [g1, g4, g6, g8, Hr, HG]) (by simp) ?_
       simp only [puts_some, updo]
       refine .e ?_ (by simp (disch := first|omega|(simp only[ln];omega)) [g1, g4, g6, g8, Hr, HG]; rfl)
       refine hK22 _ ?_
       refine .sq fun K23 hK23 => ?_
       refine .q ?_ (by simp (disch := first|omega|(simp only[ln];omega)) [neg4]; rfl)
       refine .c (t := false) (fun h50 => ?_) (fun h50 => ?_) (by simp (disch := first|omega|(simp only[ln];omega)) [neg4])
       ·simp at h50
       ·try simp only[dc]at h50
        refine .skip ?_
        refine hK23 _ ?_
        refine .sq fun K25 hK25 => ?_
        refine .q ?_ (by simp (disch := first|omega|(simp only[ln];omega)) [g8]; rfl)
        refine .c (fun h53 => ?_) (fun h53 => ?_)
        ·simp at h53
        ·try simp only[dc]at h53
         refine .skip ?_
         refine hK25 _ ?_
         refine .sq fun K27 hK27 => ?_
         refine .region ?_
         refine .kf 1 (toRing_fc r k2) hb19 ?_ (by simp (disch := first|omega|(simp only[ln];omega)) [List.take_succ_cons, List.take_zero, g1, Hr]; rfl) (ha := by simp (disch := first|omega|(simp only[ln];omega)) [idf_Wd', g1, Hr])
         refine AOPS.ocallL 4 (own1' _) rfl rfl rfl hb20 (by simp (disch := first|omega|(simp only[ln];omega)) [lv, idf_Wd', lv_sp, lv_sg, lv_m2, lv_int, lv_bool, lv_nsl, lv_m4, List.map_map, List.length_map, hrl, htl, tkR, tkT, mkR_len, mkR_tk, g1, Hr]) (⟨fun _ h => by simp [nwr, nwrL]; try exact h, by simp [nwr, nwrL, Sp.cells, Sg.cells]⟩) (by simp (disch := first|omega|(simp only[ln];omega)) [g1, Hr]) (by simp) ?_
         intro ih nx6 nx6a nx6b
         simp only [] at nx6a nx6b
         simp only [puts_some, updo]
         refine .e ?_ (by simp (disch := first|omega|(simp only[ln];omega)) [g1, Hr]; rfl)
         refine hK27 _ ?_
         refine .sq fun K28 hK28 => ?_
         refine .sq fun K29 hK29 => ?_
         refine .region ?_
         refine .k 2 ?_ (by simp (disch := first|omega|(simp only[ln];omega)) [List.take_succ_cons, List.take_zero, g4]; rfl)
         refine AOPS.lcall 4 (eqSegS_fc (sds r) (by omega)) rfl rfl rfl hb21 (by simp (disch := first|omega|(simp only[ln];omega)) [lv, idf_Wd', lv_sp, lv_sg, lv_m2, lv_int, lv_bool, lv_nsl, lv_m4, List.map_map, List.length_map, hrl, htl, tkR, tkT, mkR_len, mkR_tk, g4]) (by simp [atm, atmL]) (by simp (disch := first|omega|(simp only[ln];omega)) [g4]) (by simp) ?_
         simp only [puts_some, updo]
         refine .e ?_ (by simp (disch := first|omega|(simp only[ln];omega)) [g4]; rfl)
         refine hK29 _ ?_
         refine .c (fun h60 => ?_) (fun h60 => ?_)
         ·simp at h60
         ·try simp only[dc]at h60
          refine .skip ?_
          refine hK28 _ ?_
          refine .q ?_
          refine .sq fun K31 hK31 => ?_
          refine .region ?_
          refine .k 2 ?_ (by simp (disch := first|omega|(simp only[ln];omega)) [List.take_succ_cons, List.take_zero, g6, HG]; rfl)
          refine AOPS.lcall 4 (heldSegS_fc n 1 (by omega) (by omega) (by omega)) rfl rfl rfl hb25 (by simp (disch := first|omega|(simp only[ln];omega)) [lv, idf_Wd', lv_sp, lv_sg, lv_m2, lv_int, lv_bool, lv_nsl, lv_m4, List.map_map, List.length_map, hrl, htl, tkR, tkT, mkR_len, mkR_tk, g6, HG]) (by simp [atm, atmL]) (by simp (disch := first|omega|(simp only[ln];omega)) [g6, HG]) (by simp) ?_
          simp only [puts_some, updo]
          refine .e ?_ (by simp (disch := first|omega|(simp only[ln];omega)) [g6, HG]; rfl)
          refine hK31 _ ?_
          refine .sq fun K32 hK32 => ?_
          refine .q ?_ (by simp (disch := first|omega|(simp only[ln];omega)) [neg4]; rfl)
          refine .c (t := false) (fun h65 => ?_) (fun h65 => ?_) (by simp (disch := first|omega|(simp only[ln];omega)) [neg4])
          ·simp at h65
          ·try simp only[dc]at h65
           refine .skip ?_
           refine hK32 _ ?_
           refine .sq fun K34 hK34 => ?_
           refine .q ?_ (by simp (disch := first|omega|(simp only[ln];omega)) [g8]; rfl)
           refine .c (fun h68 => ?_) (fun h68 => ?_)
           ·simp at h68
           ·try simp only[dc]at h68
            refine .skip ?_
            refine hK34 _ ?_
            refine .q ?_
            refine .ret ?_
            exact hK _ _ _ _ trivial ((Fin.m))
      refine .region ?_
      refine .k 2 ?_ (by simp (disch := first|omega|(simp only[ln];omega)) [List.take_succ_cons, List.take_zero, g1, g4, g6, g7, Hr, HG]; rfl)
      refine .a (markSegS_ac n ig ((sds r).map Sg.cells) 1 _ _ (by simp (disch := omega) [HG]) (by rw [List.length_map]; exact htl) (segrow_len (sds r)) (by omega) (by omega) (by omega)) hb24 ?_ (ha := by simp (disch := first|omega|(simp only[ln];omega)) [idf_Wd', g1, g4, g6, g7, Hr, HG])
      rintro _ _ _ ⟨rfl, rfl, rfl⟩
      refine .e ?_ (by simp (disch := first|omega|(simp only[ln];omega)) [g1, g4, g6, g7, Hr, HG]; rfl)
      refine J20 _ ?_
      exact ⟨ig, sep, by simp [g1], by simp [g4], by simp [g6], by simp, by simp (disch := omega) [Hr], by first | omega | (simp; omega), by simp, by first | omega | (simp; omega), rfl⟩
    refine .region ?_
    refine .k 2 ?_
    refine .a (markRing_ac n ix (r.map Sp.cells) 1 _ _ (by simp (disch := omega)) (by simp; omega) (by rw [List.length_map]; exact hrl) (sprow_len r) (by omega) (by omega) (by omega)) hb23 ?_
    rintro _ H2 nx4 ⟨rfl, hM, hfr, hle⟩
    simp only [] at hfr hle
    refine .e ?_
    refine J16 _ ?_
    exact ⟨ig, by omega, by simp, by simp, by simp, by simp, (hfr _ (by omega) (by omega)).trans (by simp (disch := omega)), by first | omega | (simp; omega), (hfr _ (by omega) (by omega)).trans (by simp (disch := omega)), by first | omega | (simp; omega), rfl⟩
set_option maxHeartbeats 4000000 in
theorem fnExactRingSegs_no (r : List Sp) (hl : r.length ≤ 9223372036854775807) (hz : ¬ rgF r = 0) : FC Try.prog 4 [.agg [.isl (r.map Sp.cells)]] (.bool true) := by
 refine .b Try.func4 69 (fun nx K hK => ?_) (hi := by simp [idfL, idf, idfLL_iff, Sp.av, Sp.cells, Sg.av, Sg.cells])
 refine .q ?_
 refine .q ?_
 refine .sq fun K3 hK3 => ?_
 refine .region ?_
 refine .kf 2 (szRing_fc r 1048576 (by omega) (by omega) hl) hb17 ?_
 refine .e ?_
 refine hK3 _ ?_
 refine .sq fun K4 hK4 => ?_
 refine .q ?_
 refine .c (t := decide (szN r.length 1048576 < 0)) (fun h15 => ?_) (fun h15 => ?_)
 ·try simp only[dc]at h15
  refine .q ?_
  refine .ret ?_
  exact hK _ _ _ _ trivial ((Fin.m))
 ·try simp only[dc]at h15
  obtain ⟨k1, _⟩ := szN_le h15
  have k2 : r.length ≤ 1048576 := by omega
  have k3 : r.length ≤ 1099511627776 := by omega
  obtain ⟨n, hrl⟩ : ∃ n, r.length = n := ⟨_, rfl⟩
  have tkR : List.take n (List.map Sp.cells r) = List.map Sp.cells r := List.take_of_length_le (by rw [List.length_map]; omega)
  have own0 := fun nx => toRing_own r k2 nx
  rw [hrl] at own0
  have neg1 : decide (1 + 2 * (n : Int) < 0) = false := by simp; omega
  refine .skip ?_
  refine hK4 _ ?_
  refine .sq fun K7 hK7 => ?_
  refine .region ?_
  refine .kf 1 (toRing_fc r k2) hb19 ?_
  refine .f (ringSegsS_no r k3 hz) hb18 ?_
  refine .e ?_
  refine hK7 _ ?_
  refine .sq fun K8 hK8 => ?_
  refine .region ?_
  refine .k 1 ?_
  refine AOPS.ocallL 4 (own0 _) rfl rfl rfl hb19 (by simp (disch := first|omega|(simp only[ln];omega)) [lv, idf_Wd', lv_sp, lv_sg, lv_m2, lv_int, lv_bool, lv_nsl, lv_m4, List.map_map, List.length_map, hrl, tkR]) (⟨fun _ h => by simp [nwr, nwrL]; try exact h, by simp [nwr, nwrL, Sp.cells, Sg.cells]⟩) (by simp (disch := first|omega|(simp only[ln];omega))) (by simp) ?_
  intro ix nx2 nx2a nx2b
  simp only [] at nx2a nx2b
  simp only [puts_some, updo]
  refine .e ?_
  refine hK8 _ ?_
  refine .sq fun K9 hK9 => ?_
  refine .region ?_
  refine .k 1 ?_
  refine AOPS.lcall 4 (ringSegs_no r k3 hz) rfl rfl rfl hb20 (by simp (disch := first|omega|(simp only[ln];omega)) [lv, idf_Wd', lv_sp, lv_sg, lv_m2, lv_int, lv_bool, lv_nsl, lv_m4, List.map_map, List.length_map, hrl, tkR]) (by simp [atm, atmL]) (by simp (disch := first|omega|(simp only[ln];omega))) (by simp) ?_
  simp only [puts_some, updo]
  refine .e ?_
  refine hK9 _ ?_
  refine .sq fun K10 hK10 => ?_
  refine .sq fun K11 hK11 => ?_
  refine .region ?_
  refine .kf 2 eqSegS_nil2 hb21 ?_
  refine .e ?_
  refine hK11 _ ?_
  refine .c (fun h26 => ?_) (fun h26 => ?_)
  ·simp at h26
  ·try simp only[dc]at h26
   refine .skip ?_
   refine hK10 _ ?_
   refine .sq fun K12 hK12 => ?_
   refine .sq fun K13 hK13 => ?_
   refine AWP.drawT 3 Try.checked.mixed (by kernel_rfl) (by kernel_rfl) ?_
   simp only [List.take_succ_cons, List.take_zero, List.drop_succ_cons, List.drop_zero]
   refine .k 2 (fun fs14 hfs14 => ?_) (by simp (disch := first|omega|(simp only[ln];omega)) [runDf.eq_def, runF1, runF2, stepF.eq_def, updo.eq_def, hupo.eq_def, opSto1.eq_def, List.take_succ_cons, List.take_zero, hrl]; rfl)
   refine .f (toRing_fc r k2) hb19 ?_ (ha := by simp (disch := first|omega|(simp only[ln];omega)) [idf_Wd', hrl])
   simp only [DP]
   refine AOPS.lcall 4 (eqRing_fc r hl) rfl rfl rfl hb22 (by simp (disch := first|omega|(simp only[ln];omega)) [lv, idf_Wd', lv_sp, lv_sg, lv_m2, lv_int, lv_bool, lv_nsl, lv_m4, List.map_map, List.length_map, hrl, tkR, hrl]) (by simp [atm, atmL]) (by simp (disch := first|omega|(simp only[ln];omega)) [hrl]) (by simp) ?_
   simp only [puts_some, updo]
   refine .e ?_ (by simp (disch := first|omega|(simp only[ln];omega)) [hrl]; rfl)
   refine hK13 _ ?_
   refine .c (fun h31 => ?_) (fun h31 => ?_)
   ·simp at h31
   ·try simp only[dc]at h31
    refine .skip ?_
    refine hK12 _ ?_
    refine .q ?_
    refine .sq fun K16 hK16 => ?_
    have J16 : ∀ s : St, (s.env 1 = .ptr nx 0 0 ∧ s.env 4 = .isl [] ∧ s.env 6 = .nsl ∧ s.env 7 = .int .i64 (1 + 2 * (n : Int)) ∧ s.heap nx = some (1, [[.isl (r.map Sp.cells)]]) ∧ nx < s.nx ∧ s.nt = 69) → K16 s := by
     rintro ⟨e, H, mm, nt⟩ ⟨g1, g4, g6, g7, Hr, xr, rfl⟩
     simp only [] at g1 g4 g6 g7 Hr xr
     refine hK16 _ ?_
     refine .sq fun K17 hK17 => ?_
     refine .sq fun K18 hK18 => ?_
     refine .region ?_
     refine .kf 5 eqSegS_nil2 hb21 ?_ (by simp (disch := first|omega|(simp only[ln];omega)) [List.take_succ_cons, List.take_zero, g1, g4, g6, g7, Hr, neg1]; rfl) (ha := by simp (disch := first|omega|(simp only[ln];omega)) [idf_Wd', g1, g4, g6, g7, Hr, neg1])
     refine .e ?_ (by simp (disch := first|omega|(simp only[ln];omega)) [g1, g4, g6, g7, Hr, neg1]; rfl)
     refine hK18 _ ?_
     refine .c (fun h42 => ?_) (fun h42 => ?_)
     ·simp at h42
     ·try simp only[dc]at h42
      refine .skip ?_
      refine hK17 _ ?_
      refine .q ?_
      refine .sq fun K20 hK20 => ?_
      refine .region ?_
      refine .kf 2 (markSegS_nil2 1 (by omega) (by omega)) hb24 ?_ (by simp (disch := first|omega|(simp only[ln];omega)) [List.take_succ_cons, List.take_zero, g1, g4, g6, g7, Hr]; rfl) (ha := by simp (disch := first|omega|(simp only[ln];omega)) [idf_Wd', g1, g4, g6, g7, Hr])
      refine .e ?_ (by simp (disch := first|omega|(simp only[ln];omega)) [g1, g4, g6, g7, Hr]; rfl)
      refine hK20 _ ?_
      refine .q ?_
      refine .sq fun K22 hK22 => ?_
      refine .region ?_
      refine .kf 2 (heldSegS_nil2 1 (by omega) (by omega)) hb25 ?_ (by simp (disch := first|omega|(simp only[ln];omega)) [List.take_succ_cons, List.take_zero, g1, g4, g6, g7, Hr]; rfl) (ha := by simp (disch := first|omega|(simp only[ln];omega)) [idf_Wd', g1, g4, g6, g7, Hr])
      refine .e ?_ (by simp (disch := first|omega|(simp only[ln];omega)) [g1, g4, g6, g7, Hr]; rfl)
      refine hK22 _ ?_
      refine .sq fun K23 hK23 => ?_
      refine .q ?_
      refine .c (fun h50 => ?_) (fun h50 => ?_)
      ·simp at h50
      ·try simp only[dc]at h50
       refine .skip ?_
       refine hK23 _ ?_
       refine .sq fun K25 hK25 => ?_
       refine .q ?_
       refine .c (fun h53 => ?_) (fun h53 => ?_)
       ·simp at h53
       ·try simp only[dc]at h53
        refine .skip ?_
        refine hK25 _ ?_
        refine .sq fun K27 hK27 => ?_
        refine .region ?_
        refine .kf 1 (toRing_fc r k2) hb19 ?_ (by simp (disch := first|omega|(simp only[ln];omega)) [List.take_succ_cons, List.take_zero, g1, Hr]; rfl) (ha := by simp (disch := first|omega|(simp only[ln];omega)) [idf_Wd', g1, Hr])
        refine .f (ringSegs_no r k3 hz) hb20 ?_ (ha := by simp (disch := first|omega|(simp only[ln];omega)) [idf_Wd', g1, Hr])
        refine .e ?_ (by simp (disch := first|omega|(simp only[ln];omega)) [g1, Hr]; rfl)
        refine hK27 _ ?_
        refine .sq fun K28 hK28 => ?_
        refine .sq fun K29 hK29 => ?_
        refine .region ?_
        refine .kf 2 eqSegS_nil2 hb21 ?_ (by simp (disch := first|omega|(simp only[ln];omega)) [List.take_succ_cons, List.take_zero, g4]; rfl) (ha := by simp (disch := first|omega|(simp only[ln];omega)) [idf_Wd', g4])
        refine .e ?_ (by simp (disch := first|omega|(simp only[ln];omega)) [g4]; rfl)
        refine hK29 _ ?_
        refine .c (fun h60 => ?_) (fun h60 => ?_)
        ·simp at h60
        ·try simp only[dc]at h60
         refine .skip ?_
         refine hK28 _ ?_
         refine .q ?_
         refine .sq fun K31 hK31 => ?_
         refine .region ?_
         refine .kf 2 (heldSegS_nil2 1 (by omega) (by omega)) hb25 ?_ (by simp (disch := first|omega|(simp only[ln];omega)) [List.take_succ_cons, List.take_zero, g6]; rfl) (ha := by simp (disch := first|omega|(simp only[ln];omega)) [idf_Wd', g6])
         refine .e ?_ (by simp (disch := first|omega|(simp only[ln];omega)) [g6]; rfl)
         refine hK31 _ ?_
         refine .sq fun K32 hK32 => ?_
         refine .q ?_
         refine .c (fun h65 => ?_) (fun h65 => ?_)
         ·simp at h65
         ·try simp only[dc]at h65
          refine .skip ?_
          refine hK32 _ ?_
          refine .sq fun K34 hK34 => ?_
          refine .q ?_
          refine .c (fun h68 => ?_) (fun h68 => ?_)
          ·simp at h68
          ·try simp only[dc]at h68
           refine .skip ?_
           refine hK34 _ ?_
           refine .q ?_
           refine .ret ?_
           exact hK _ _ _ _ trivial ((Fin.m))
    refine .region ?_
    refine .k 2 ?_
    refine .a (markRing_ac n ix (r.map Sp.cells) 1 _ _ (by simp (disch := omega)) (by simp; omega) (by rw [List.length_map]; exact hrl) (sprow_len r) (by omega) (by omega) (by omega)) hb23 ?_
    rintro _ H2 nx4 ⟨rfl, hM, hfr, hle⟩
    simp only [] at hfr hle
    refine .e ?_
    refine J16 _ ?_
    exact ⟨by simp, by simp, by simp, by simp, (hfr _ (by omega) (by omega)).trans (by simp (disch := omega)), by first | omega | (simp; omega), rfl⟩
end
theorem fnExactRingSegs_fc (r : List Sp) (hl : r.length ≤ 9223372036854775807) : FC Try.prog 4 [.agg [.isl (r.map Sp.cells)]] (.bool true) := by
  by_cases hz : rgF r = 0
  · exact fnExactRingSegs_yes r hl hz
  · exact fnExactRingSegs_no r hl hz

end Go.Proofs.Ytdcajfgeleopiaa
