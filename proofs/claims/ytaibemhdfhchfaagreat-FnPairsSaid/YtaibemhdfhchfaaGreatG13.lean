/- Walks: numbers of 64 bits: products, lengths, quotients. -/
import Derived.Test.YtaibemhdfhchfaaGreatG12

namespace Go.Proofs.YtaibemhdfhchfaaGreat
open Go Go.RowKit
set_option linter.unusedSimpArgs false
set_option linter.unusedVariables false
set_option maxRecDepth 100000
attribute [local simp] szT3 byT3 agT3 unT3 zoT3 szT5 byT5 agT5 unT5 zoT5 szT9 byT9 agT9 stT9 zoT9 szT25 byT25 agT25 unT25 zoT25

section
attribute [local simp] wrap_u64m and_low32 IntKind.bits Int.fdiv_eq_ediv_of_nonneg
set_option maxHeartbeats 1000000 in
theorem mul64_fc (x y : Int) (hx0 : 0 ≤ x) (hx : x < 18446744073709551616) (hy0 : 0 ≤ y) (hy : y < 18446744073709551616) : FC Tryz.prog 168 [.int .u64 x, .int .u64 y] (.tup [.int .u64 (x * y / 18446744073709551616), .int .u64 (x * y % 18446744073709551616)]) := by
 refine .b Tryz.func168 51 (fun nx K hK => ?_)
 refine .q ?_
 refine .q ?_
 refine .q ?_
 refine .q ?_
 refine .q ?_
 refine .q ?_
 refine .q ?_
 refine .q ?_
 refine .q ?_
 refine .q ?_
 refine .q ?_
 refine .q ?_
 refine .ret ?_
 exact hK _ _ _ _ trivial ((Fin.mk (by simp (disch := omega) [aRes, aResL, aRes1]; rfl)).cast (by rw [mul64_hi x y hx0 hx hy0 hy]))
end
section
attribute [local simp] IntKind.bits Int.fdiv_eq_ediv_of_nonneg
set_option maxHeartbeats 1000000 in
theorem len64_fc (x : Nat) (hx : x < 18446744073709551616) : FC Tryz.prog 267 [.int .u64 (x : Int)] (.int .i64 (bitLen x : Int)) := by
 refine .b Tryz.func267 25 (fun nx K hK => ?_)
 refine .q ?_
 refine .sq fun K2 hK2 => ?_
 have J2 : ∀ s : St, (∃ y n : Nat, s.env 0 = .int .u64 (y : Int) ∧ s.env 2 = .int .i64 (n : Int) ∧ y < 4294967296 ∧ n ≤ 32 ∧ n + bitLen y = bitLen x ∧ s.heap = (fun _ => none) ∧ s.nt = 25) → K2 s := by
  rintro ⟨e, H, nx, nt⟩ ⟨y, n, h0, h2, hy, hn, hb, rfl, rfl⟩
  simp only [] at h0 h2
  refine hK2 _ ?_
  refine .sq fun K3 hK3 => ?_
  have J3 : ∀ s : St, (∃ y n : Nat, s.env 0 = .int .u64 (y : Int) ∧ s.env 2 = .int .i64 (n : Int) ∧ y < 65536 ∧ n ≤ 48 ∧ n + bitLen y = bitLen x ∧ s.heap = (fun _ => none) ∧ s.nt = 25) → K3 s := by
   clear h0 h2 hb
   rintro ⟨e, H, nx, nt⟩ ⟨y, n, h0, h2, hy, hn, hb, rfl, rfl⟩
   simp only [] at h0 h2
   refine hK3 _ ?_
   refine .sq fun K4 hK4 => ?_
   have J4 : ∀ s : St, (∃ y n : Nat, s.env 0 = .int .u64 (y : Int) ∧ s.env 2 = .int .i64 (n : Int) ∧ y < 256 ∧ n ≤ 56 ∧ n + bitLen y = bitLen x ∧ s.heap = (fun _ => none) ∧ s.nt = 25) → K4 s := by
    clear h0 h2 hb
    rintro ⟨e, H, nx, nt⟩ ⟨y, n, h0, h2, hy, hn, hb, rfl, rfl⟩
    simp only [] at h0 h2
    have hl := bitLen_le8 y hy
    refine hK4 _ ?_
    refine .sq fun K5 hK5 => ?_
    refine AWP.region ?_
    refine AOPS.runk 3 (by simp (disch := first|omega|(simp only[ln];omega)) [List.take_succ_cons, List.take_zero, h0, h2]; rfl) ?_
    simp only [List.drop_succ_cons, List.drop_zero]
    refine AOPS.opval (.int .u8 (bitLen y : Int)) (by simp (disch := first|omega|(simp only[ln];omega)) [List.take_succ_cons, List.take_zero, h0, h2]; exact tab_of _ (by kernel_rfl) y hy) (by simp) (by simp) ?_
    simp only [puts_some]
    refine AOPS.all (by simp (disch := first|omega|(simp only[ln];omega)) [List.take_succ_cons, List.take_zero, h0, h2]; rfl) ?_
    refine hK5 _ ?_
    refine .ret ?_
    exact hK _ _ _ _ trivial ((Fin.mk (by simp [aRes, aResL, aRes1]; rfl)).cast (by congr 1; omega))
   refine .q ?_ (by simp (disch := first|omega|(simp only[ln];omega)) [h0, h2]; rfl)
   refine .c (fun h14 => ?_) (fun h14 => ?_)
   ·try simp only[dc]at h14
    refine .q ?_ (by simp (disch := first|omega|(simp only[ln];omega)) [h0, h2]; rfl)
    refine .r ?_ (by simp (disch := first|omega|(simp only[ln];omega)) [h0, h2]; rfl)
    refine J4 _ ?_
    exact ⟨y / 256, n + 8, by simp [h0], by simp (disch := omega) [h2], by omega, by omega, by have h := bitLen_shift y 8 (by omega); rw [show (2 : Nat) ^ 8 = 256 from rfl] at h; omega, rfl, rfl⟩
   ·try simp only[dc]at h14
    refine .skip ?_
    refine J4 _ ?_
    exact ⟨y, n, by simp [h0], by simp [h2], by omega, by omega, hb, rfl, rfl⟩
  refine .q ?_ (by simp (disch := first|omega|(simp only[ln];omega)) [h0, h2]; rfl)
  refine .c (fun h8 => ?_) (fun h8 => ?_)
  ·try simp only[dc]at h8
   refine .q ?_ (by simp (disch := first|omega|(simp only[ln];omega)) [h0, h2]; rfl)
   refine .r ?_ (by simp (disch := first|omega|(simp only[ln];omega)) [h0, h2]; rfl)
   refine J3 _ ?_
   exact ⟨y / 65536, n + 16, by simp [h0], by simp (disch := omega) [h2], by omega, by omega, by have h := bitLen_shift y 16 (by omega); rw [show (2 : Nat) ^ 16 = 65536 from rfl] at h; omega, rfl, rfl⟩
  ·try simp only[dc]at h8
   refine .skip ?_
   refine J3 _ ?_
   exact ⟨y, n, by simp [h0], by simp [h2], by omega, by omega, hb, rfl, rfl⟩
 refine .q ?_
 refine .c (fun h4 => ?_) (fun h4 => ?_)
 ·try simp only[dc]at h4
  refine .q ?_
  refine .r ?_
  refine J2 _ ?_
  exact ⟨x / 4294967296, 32, by simp, by simp, by omega, by omega, (bitLen_shift x 32 (by omega)).symm, rfl, rfl⟩
 ·try simp only[dc]at h4
  refine .skip ?_
  refine J2 _ ?_
  exact ⟨x, 0, by simp, by simp, by omega, by omega, by omega, rfl, rfl⟩
end
theorem lz64_fc (x : Nat) (hx : x < 18446744073709551616) : FC Tryz.prog 237 [.int .u64 (x : Int)] (.int .i64 (64 - (bitLen x : Int))) := by
 have hb : bitLen x ≤ 64 := by
   unfold bitLen; split
   · omega
   · rename_i h0
     have := (Nat.log2_lt h0).2 (show x < 2 ^ 64 from hx)
     omega
 refine .b Tryz.func237 6 (fun nx K hK => ?_)
 refine .q ?_
 refine .sq fun K2 hK2 => ?_
 refine .region ?_
 refine .kf 1 (len64_fc x hx) hb267 ?_
 refine .e ?_
 refine hK2 _ ?_
 refine .ret ?_
 exact hK _ _ _ _ trivial (Fin.m)

end Go.Proofs.YtaibemhdfhchfaaGreat

/- Walks: rows of words of the program. -/
namespace Go.Proofs.YtaibemhdfhchfaaGreat
open Go Go.RowKit
set_option linter.unusedSimpArgs false
set_option linter.unusedVariables false
set_option maxRecDepth 100000
attribute [local simp] szT3 byT3 agT3 unT3 zoT3 szT25 byT25 agT25 unT25 zoT25 szT108 byT108 agT108 elT108 unT108 zoT108

theorem trim_fc (l : List Int) (hl : l.length ≤ 1099511627776) : FC Tryz.prog 240 [Wd .u64 l] (Wd .u64 (trimW l)) := by
 refine .b Tryz.func240 21 (fun nx K hK => ?_)
 refine .q ?_
 refine .sq fun K2 hK2 => ?_
 refine .block ?_
 refine .loop (fun n s => ∃ l', n = l'.length ∧ l'.length ≤ l.length ∧ trimW l' = trimW l ∧ s.env 0 = Wd .u64 l' ∧ s.heap = (fun _ => none) ∧ s.nt = 21) (l.length) (⟨l, rfl, Nat.le_refl _, rfl, by simp, rfl, rfl⟩) ?_
 rintro n ⟨e, H, nx, nt⟩ ⟨l', rfl, hlen, ht, h0, rfl, rfl⟩
 simp only [] at h0
 refine .sq fun K3 hK3 => ?_
 refine .sq fun K4 hK4 => ?_
 rcases List.eq_nil_or_concat l' with rfl | ⟨l'', x, rfl⟩
 ·refine .r ?_ (by simp (disch := first|omega|(simp only[ln];omega)) [idx_WdD (P := Tryz.prog) elT108 szT25, if_pos, len_Wd (P := Tryz.prog) #[108] rfl elT108, h0]; rfl)
  refine hK4 _ ?_
  refine .c (fun h14 => ?_) (fun h14 => ?_)
  ·simp at h14
  ·try simp only[dc]at h14
   refine .exit ?_
   refine hK2 _ ?_
   refine .q ?_ (by simp (disch := first|omega|(simp only[ln];omega)) [h0]; rfl)
   refine .ret ?_
   exact hK _ _ _ _ trivial (Fin.mk (r := Wd .u64 (trimW l)) (by simp [aRes, aResL, aRes1, ← ht, trimW]))
 ·simp only [List.concat_eq_append, List.length_append, List.length_singleton] at hlen h0 ht
  have hg : gt (l'' ++ [x]) l''.length = x := by simp [gt]
  refine .r ?_ (by simp (disch := first|omega|(simp only[ln];omega)) [idx_WdD (P := Tryz.prog) elT108 szT25, if_pos, len_Wd (P := Tryz.prog) #[108] rfl elT108, h0, hg, ld_ip agT25]; rfl)
  refine hK4 _ ?_
  refine .c (fun h14 => ?_) (fun h14 => ?_)
  ·try simp only[dc]at h14
   have hx : x = 0 := by simpa using h14
   refine .skip ?_
   refine hK3 _ ?_
   refine .block ?_
   refine .r ?_ (by simp (disch := first|omega|(simp only[ln];omega)) [if_pos, len_Wd (P := Tryz.prog) #[108] rfl elT108, h0, slc_Wd (P := Tryz.prog) (k := .u64) (l := l'' ++ [x]) (lo := none) (hi := some (.int .i64 l''.length)) (a := 0) (b := l''.length) elT108 szT25 rfl (by simp [bnd]) (Nat.zero_le _) (by simp)]; rfl)
   refine ⟨l''.length, by simp, l'', rfl, by omega, ?_, by simp, rfl, rfl⟩
   rw [← ht, hx, trimW_concat_zero]
  ·try simp only[dc]at h14
   have hx : x ≠ 0 := by simpa using h14
   refine .exit ?_
   refine hK2 _ ?_
   refine .q ?_ (by simp (disch := first|omega|(simp only[ln];omega)) [h0]; rfl)
   refine .ret ?_
   exact hK _ _ _ _ trivial (Fin.mk (r := Wd .u64 (trimW l)) (by simp [aRes, aResL, aRes1, ← ht, trimW_concat_pos _ _ hx]))
theorem cmpWords_fc (a b : List Int) (ha : a.length ≤ 1099511627776) (hb : b.length ≤ 1099511627776) : FC Tryz.prog 172 [Wd .u64 a, Wd .u64 b] (.int .i64 (cmpI a b)) := by
 refine .b Tryz.func172 41 (fun nx K hK => ?_)
 refine .q ?_
 refine .sq fun K2 hK2 => ?_
 refine .q ?_ (by simp (disch := first|omega|(simp only[ln];omega)) [len_Wd (P := Tryz.prog) #[108] rfl elT108]; rfl)
 refine .c (fun h10 => ?_) (fun h10 => ?_)
 ·try simp only[dc]at h10
  have hne : a.length ≠ b.length := by simp at h10; omega
  refine .q ?_ (by simp (disch := first|omega|(simp only[ln];omega)) [len_Wd (P := Tryz.prog) #[108] rfl elT108]; rfl)
  refine .ret ?_
  exact hK _ _ _ _ trivial (Fin.mk (by simp (disch := omega) [aRes, aResL, aRes1, cmpI_ne hne]))
 ·try simp only[dc]at h10
  have hne : a.length = b.length := by simp at h10; omega
  refine .skip ?_
  refine hK2 _ ?_
  refine .sq fun K5 hK5 => ?_
  refine .q ?_ (by simp (disch := first|omega|(simp only[ln];omega)) [len_Wd (P := Tryz.prog) #[108] rfl elT108]; rfl)
  refine .block ?_
  refine .loop (fun n s => n ≤ a.length ∧ cmpAt a b n = cmpAt a b a.length ∧ s.env 0 = Wd .u64 a ∧ s.env 1 = Wd .u64 b ∧ s.env 5 = .int .i64 ((n : Int) - 1) ∧ s.heap = (fun _ => none) ∧ s.nt = 41) (a.length) (⟨Nat.le_refl _, rfl, by simp, by simp, by simp (disch := omega), rfl, rfl⟩) ?_
  rintro n ⟨e, H, nx, nt⟩ ⟨hlen, ht, h0, h1, h5, rfl, rfl⟩
  simp only [] at h0 h1 h5
  refine .sq fun K7 hK7 => ?_
  refine .q ?_ (by simp (disch := first|omega|(simp only[ln];omega)) [h5]; rfl)
  refine .c (fun h20 => ?_) (fun h20 => ?_)
  ·try simp only[dc]at h20
   obtain ⟨m, rfl⟩ : ∃ m, n = m + 1 := ⟨n - 1, by omega⟩
   replace h5 : e 5 = .int .i64 (m : Int) := by simpa using h5
   refine .skip ?_
   refine hK7 _ ?_
   refine .sq fun K9 hK9 => ?_
   refine .block ?_
   refine .sq fun K10 hK10 => ?_
   refine .df 9 ?_ (by simp (disch := first|omega|(simp only[ln];omega)) [runDf.eq_def, runF1, runF2, stepF.eq_def, updo.eq_def, hupo.eq_def, opSto1.eq_def, idx_WdD (P := Tryz.prog) elT108 szT25, if_pos, h0, h1, h5, ld_ip agT25]; rfl)
   refine hK10 _ ?_
   refine .c (fun h31 => ?_) (fun h31 => ?_)
   ·try simp only[dc]at h31
    have hx : gt a m ≠ gt b m := by simpa using h31
    refine .sq fun K11 hK11 => ?_
    refine .sq fun K12 hK12 => ?_
    refine .df 9 ?_ (by simp (disch := first|omega|(simp only[ln];omega)) [runDf.eq_def, runF1, runF2, stepF.eq_def, updo.eq_def, hupo.eq_def, opSto1.eq_def, idx_WdD (P := Tryz.prog) elT108 szT25, if_pos, h0, h1, h5, ld_ip agT25]; rfl)
    refine hK12 _ ?_
    refine .c (fun h40 => ?_) (fun h40 => ?_)
    ·try simp only[dc]at h40
     refine .q ?_
     refine .ret ?_
     exact hK _ _ _ _ trivial (Fin.mk (by simp [aRes, aResL, aRes1, cmpI_of hne, ← ht, cmpAt, hx, h40]))
    ·try simp only[dc]at h40
     refine .skip ?_
     refine hK11 _ ?_
     refine .q ?_
     refine .ret ?_
     exact hK _ _ _ _ trivial (Fin.mk (by simp [aRes, aResL, aRes1, cmpI_of hne, ← ht, cmpAt, hx, h40]))
   ·try simp only[dc]at h31
    have hx : gt a m = gt b m := by simpa using h31
    refine .skip ?_
    refine hK9 _ ?_
    refine .r ?_ (by simp (disch := first|omega|(simp only[ln];omega)) [h5]; rfl)
    exact ⟨m, by omega, by omega, by rw [← ht, cmpAt, if_pos hx], by simp [h0], by simp [h1], by simp (disch := omega), rfl, rfl⟩
  ·try simp only[dc]at h20
   obtain rfl : n = 0 := by omega
   refine .exit ?_
   refine hK5 _ ?_
   refine .q ?_
   refine .ret ?_
   exact hK _ _ _ _ trivial (Fin.mk (by simp [aRes, aResL, aRes1, cmpI_of hne, ← ht, cmpAt]))
theorem addWords_fc (a b : List Int) (ha : a.length ≤ 549755813888) (hb : b.length ≤ 549755813888) (da : Dig 18446744073709551616 a) (db : Dig 18446744073709551616 b) : FC Tryz.prog 171 [Wd .u64 a, Wd .u64 b] (Wd .u64 (digs 18446744073709551616 (val 18446744073709551616 a + val 18446744073709551616 b).toNat)) := by
 refine .b Tryz.func171 54 (fun nx K hK => ?_)
 refine .q ?_
 refine .sq fun K2 hK2 => ?_
 have J2 : ∀ s : St, (∃ a' b', s.env 0 = Wd .u64 a' ∧ s.env 1 = Wd .u64 b' ∧ b'.length ≤ a'.length ∧ a'.length ≤ 549755813888 ∧ Dig 18446744073709551616 a' ∧ Dig 18446744073709551616 b' ∧ val 18446744073709551616 a' + val 18446744073709551616 b' = val 18446744073709551616 a + val 18446744073709551616 b ∧ s.heap = (fun _ => none) ∧ s.nt = 54) → K2 s := by
  rintro ⟨e, H, nx, nt⟩ ⟨a', b', h0, h1, hle, hlen, da', db', hv, rfl, rfl⟩
  simp only [] at h0 h1
  refine hK2 _ ?_
  refine .q ?_ (by simp (disch := first|omega|(simp only[ln];omega)) [if_pos, len_Wd (P := Tryz.prog) #[108] rfl elT108, h0, h1]; rfl)
  refine .sq fun K4 hK4 => ?_
  refine .q ?_ (by simp (disch := first|omega|(simp only[ln];omega)) [len_Wd (P := Tryz.prog) #[108] rfl elT108, h0, h1]; rfl)
  refine .block ?_
  refine .loop (fun n s => ∃ i out c, n = a'.length - i ∧ i ≤ a'.length ∧ out.length = a'.length + 1 ∧ Dig 18446744073709551616 out ∧ 0 ≤ c ∧ c ≤ 1 ∧ val 18446744073709551616 (out.take i) + c * (18446744073709551616 : Int) ^ i = val 18446744073709551616 (a'.take i) + val 18446744073709551616 (b'.take i) ∧ s.env 0 = Wd .u64 a' ∧ s.env 1 = Wd .u64 b' ∧ s.env 5 = .osl nx 0 (a'.length + 1) ∧ s.env 6 = .int .u64 c ∧ s.env 21 = .int .i64 a'.length ∧ s.env 22 = .int .i64 (i : Int) ∧ s.heap = hupd (fun _ => none) nx (some (1, wd .u64 out)) ∧ s.nt = 54) (a'.length) (⟨0, List.replicate (a'.length + 1) 0, 0, by omega, by omega, by simp, Dig.replicate _ (by omega) (by omega), by omega, by omega, by simp [val], by simp [h0], by simp [h1], by simp, by simp, by simp, by simp, by simp, rfl⟩) ?_
  rintro n ⟨e, H, nx2, nt⟩ ⟨i, out, c, rfl, hi, ho, hd, hc0, hc1, hval, h0, h1, h5, h6, h21, h22, rfl, rfl⟩
  simp only [] at h0 h1 h5 h6 h21 h22
  refine .q ?_ (by simp (disch := first|omega|(simp only[ln];omega)) [h21, h22]; rfl)
  refine .sq fun K7 hK7 => ?_
  refine .c (fun h23 => ?_) (fun h23 => ?_)
  ·try simp only[dc]at h23
   have hi' : i < a'.length := by omega
   refine .skip ?_
   refine hK7 _ ?_
   refine .sq fun K8 hK8 => ?_
   refine .block ?_
   refine .q ?_ (by simp (disch := first|omega|(simp only[ln];omega)) [h22]; rfl)
   refine .q ?_
   refine .sq fun K11 hK11 => ?_
   have J11 : ∀ s : St, (s.env 0 = Wd .u64 a' ∧ s.env 1 = Wd .u64 b' ∧ s.env 5 = .osl nx 0 (a'.length + 1) ∧ s.env 6 = .int .u64 c ∧ s.env 7 = .int .i64 (i : Int) ∧ s.env 8 = .int .u64 (gt b' i) ∧ s.env 21 = .int .i64 a'.length ∧ s.env 22 = .int .i64 (i : Int) ∧ s.heap = hupd (fun _ => none) nx (some (1, wd .u64 out)) ∧ s.nt = 54) → K11 s := by
    clear h0 h1 h5 h6 h21 h22
    rintro ⟨e, H, nx2, nt⟩ ⟨h0, h1, h5, h6, h7, h8, h21, h22, rfl, rfl⟩
    simp only [] at h0 h1 h5 h6 h7 h8 h21 h22
    refine hK11 _ ?_
    refine .region ?_
    refine .k 8 ?_ (by simp (disch := first|omega|(simp only[ln];omega)) [List.take_succ_cons, List.take_zero, idx_WdD (P := Tryz.prog) elT108 szT25, if_pos, h0, h1, h5, h6, h7, h8, ho, ld_ip agT25]; rfl)
    refine .en (FE.add64 nb169 (gt a' i) (gt b' i) c (da'.gt (by omega) i).1 (db'.gt (by omega) i).1 hc0 hc1) ?_ (ha := by simp (disch := first|omega|(simp only[ln];omega)) [idf_Wd', idx_WdD (P := Tryz.prog) elT108 szT25, if_pos, h0, h1, h5, h6, h7, h8, ho, ld_ip agT25])
    refine .e ?_ (by simp (disch := first|omega|(simp only[ln];omega)) [idx_WdD (P := Tryz.prog) elT108 szT25, if_pos, h0, h1, h5, h6, h7, h8, ho, ld_ip agT25]; rfl)
    refine hK8 _ ?_
    refine .r ?_ (by simp (disch := first|omega|(simp only[ln];omega)) [h22]; rfl)
    have hga := da'.gt (by omega) i
    have hgb := db'.gt (by omega) i
    refine ⟨a'.length - (i + 1), by omega, i + 1, out.set i ((gt a' i + gt b' i + c) % 18446744073709551616), (gt a' i + gt b' i + c) / 18446744073709551616, rfl, by omega, by simp [ho], hd.set i (by omega) (by omega), by omega, by omega, ?_, by simp [h0], by simp [h1], by simp [h5], by simp, by simp [h21], by simp (disch := omega) [h22], by simp, rfl⟩
    rw [val_set_take (by omega), val_take_succ, val_take_succ, Int.pow_succ]
    have := Int.emod_add_mul_ediv (gt a' i + gt b' i + c) 18446744073709551616
    grind
   refine .q ?_ (by simp (disch := first|omega|(simp only[ln];omega)) [len_Wd (P := Tryz.prog) #[108] rfl elT108, h1]; rfl)
   refine .c (fun h28 => ?_) (fun h28 => ?_)
   ·try simp only[dc]at h28
    have hib : i < b'.length := by omega
    refine .r ?_ (by simp (disch := first|omega|(simp only[ln];omega)) [idx_WdD (P := Tryz.prog) elT108 szT25, if_pos, h1, ld_ip agT25]; rfl)
    refine J11 _ ?_
    exact ⟨by simp [h0], by simp [h1], by simp [h5], by simp [h6], by simp, by simp, by simp [h21], by simp [h22], rfl, rfl⟩
   ·try simp only[dc]at h28
    refine .skip ?_
    refine J11 _ ?_
    exact ⟨by simp [h0], by simp [h1], by simp [h5], by simp [h6], by simp, by simp [gt_ge (show b'.length ≤ i by omega)], by simp [h21], by simp [h22], rfl, rfl⟩
  ·try simp only[dc]at h23
   obtain rfl : i = a'.length := by omega
   refine .exit ?_
   refine hK4 _ ?_
   refine .q ?_ (by simp (disch := first|omega|(simp only[ln];omega)) [idx_WdD (P := Tryz.prog) elT108 szT25, if_pos, len_Wd (P := Tryz.prog) #[108] rfl elT108, h0, h5, h6, ho]; rfl)
   refine .sq fun K14 hK14 => ?_
   refine AWP.frz nx 1 (wd .u64 (out.set a'.length c)) (by simp) ?_
   have hfz : fz nx (wd .u64 (out.set a'.length c)) (.osl nx 0 (a'.length + 1)) = Wd .u64 (out.set a'.length c) := fz_wd (by simp [ho])
   refine .region ?_
   refine .kf 1 (trim_fc (out.set a'.length c) (by simp; omega)) hb240 ?_ (by simp (disch := first|omega|(simp only[ln];omega)) [List.take_succ_cons, List.take_zero, h5, hfz]; rfl) (ha := by simp (disch := first|omega|(simp only[ln];omega)) [idf_Wd', h5, hfz])
   refine .e ?_ (by simp (disch := first|omega|(simp only[ln];omega)) [h5, hfz]; rfl)
   refine hK14 _ ?_
   refine .ret ?_
   have hd2 : Dig 18446744073709551616 (out.set a'.length c) := hd.set _ (by omega) (by omega)
   have hv2 : val 18446744073709551616 (out.set a'.length c) = val 18446744073709551616 a + val 18446744073709551616 b := by
     have e1 := val_set_take (B := 18446744073709551616) (v := c) (show a'.length < out.length by omega)
     rw [val_take_all (by simp; omega)] at e1
     rw [val_take_all (Nat.le_refl _), val_take_all hle] at hval
     grind
   exact hK _ _ _ _ trivial ((Fin.mk (r := Wd .u64 (trimW (out.set a'.length c))) (by simp [aRes, aResL, aRes1])).cast (by rw [trimW_digs (by omega) hd2, hv2]))
 refine .q ?_ (by simp (disch := first|omega|(simp only[ln];omega)) [len_Wd (P := Tryz.prog) #[108] rfl elT108]; rfl)
 refine .c (fun h13 => ?_) (fun h13 => ?_)
 ·try simp only[dc]at h13
  refine .r ?_
  refine J2 _ ?_
  exact ⟨b, a, by simp, by simp, by omega, hb, db, da, by omega, rfl, rfl⟩
 ·try simp only[dc]at h13
  refine .skip ?_
  refine J2 _ ?_
  exact ⟨a, b, by simp, by simp, by omega, ha, da, db, rfl, rfl, rfl⟩
theorem subWords_fc (a b : List Int) (ha : a.length ≤ 549755813888) (hle : b.length ≤ a.length) (da : Dig 18446744073709551616 a) (db : Dig 18446744073709551616 b) (hba : val 18446744073709551616 b ≤ val 18446744073709551616 a) : FC Tryz.prog 173 [Wd .u64 a, Wd .u64 b] (Wd .u64 (digs 18446744073709551616 (val 18446744073709551616 a - val 18446744073709551616 b).toNat)) := by
 refine .b Tryz.func173 41 (fun nx K hK => ?_)
 refine .q ?_
 refine .q ?_ (by simp (disch := first|omega|(simp only[ln];omega)) [if_pos, len_Wd (P := Tryz.prog) #[108] rfl elT108]; rfl)
 refine .sq fun K3 hK3 => ?_
 refine .q ?_ (by simp (disch := first|omega|(simp only[ln];omega)) [len_Wd (P := Tryz.prog) #[108] rfl elT108]; rfl)
 refine .block ?_
 refine .loop (fun n s => ∃ i out c, n = a.length - i ∧ i ≤ a.length ∧ out.length = a.length ∧ Dig 18446744073709551616 out ∧ 0 ≤ c ∧ c ≤ 1 ∧ val 18446744073709551616 (out.take i) - c * (18446744073709551616 : Int) ^ i = val 18446744073709551616 (a.take i) - val 18446744073709551616 (b.take i) ∧ s.env 0 = Wd .u64 a ∧ s.env 1 = Wd .u64 b ∧ s.env 5 = .osl nx 0 a.length ∧ s.env 6 = .int .u64 c ∧ s.env 13 = .int .i64 a.length ∧ s.env 14 = .int .i64 (i : Int) ∧ s.heap = hupd (fun _ => none) nx (some (1, wd .u64 out)) ∧ s.nt = 41) (a.length) (⟨0, List.replicate a.length 0, 0, by omega, by omega, by simp, Dig.replicate _ (by omega) (by omega), by omega, by omega, by simp [val], by simp, by simp, by simp, by simp, by simp, by simp, by simp, rfl⟩) ?_
 rintro n ⟨e, H, nx2, nt⟩ ⟨i, out, c, rfl, hi, ho, hd, hc0, hc1, hval, h0, h1, h5, h6, h13, h14, rfl, rfl⟩
 simp only [] at h0 h1 h5 h6 h13 h14
 refine .q ?_ (by simp (disch := first|omega|(simp only[ln];omega)) [h13, h14]; rfl)
 refine .sq fun K6 hK6 => ?_
 refine .c (fun h15 => ?_) (fun h15 => ?_)
 ·try simp only[dc]at h15
  have hi' : i < a.length := by omega
  refine .skip ?_
  refine hK6 _ ?_
  refine .sq fun K7 hK7 => ?_
  refine .block ?_
  refine .q ?_ (by simp (disch := first|omega|(simp only[ln];omega)) [h14]; rfl)
  refine .q ?_
  refine .sq fun K10 hK10 => ?_
  have J10 : ∀ s : St, (s.env 0 = Wd .u64 a ∧ s.env 1 = Wd .u64 b ∧ s.env 5 = .osl nx 0 a.length ∧ s.env 6 = .int .u64 c ∧ s.env 7 = .int .i64 (i : Int) ∧ s.env 8 = .int .u64 (gt b i) ∧ s.env 13 = .int .i64 a.length ∧ s.env 14 = .int .i64 (i : Int) ∧ s.heap = hupd (fun _ => none) nx (some (1, wd .u64 out)) ∧ s.nt = 41) → K10 s := by
   clear h0 h1 h5 h6 h13 h14
   rintro ⟨e, H, nx2, nt⟩ ⟨h0, h1, h5, h6, h7, h8, h13, h14, rfl, rfl⟩
   simp only [] at h0 h1 h5 h6 h7 h8 h13 h14
   refine hK10 _ ?_
   refine .region ?_
   refine .k 8 ?_ (by simp (disch := first|omega|(simp only[ln];omega)) [List.take_succ_cons, List.take_zero, idx_WdD (P := Tryz.prog) elT108 szT25, if_pos, h0, h1, h5, h6, h7, h8, ho, ld_ip agT25]; rfl)
   refine .en (FE.sub64 nb241 (gt a i) (gt b i) c (da.gt (by omega) i).1 (db.gt (by omega) i).1 (db.gt (by omega) i).2 hc0 hc1) ?_ (ha := by simp (disch := first|omega|(simp only[ln];omega)) [idf_Wd', idx_WdD (P := Tryz.prog) elT108 szT25, if_pos, h0, h1, h5, h6, h7, h8, ho, ld_ip agT25])
   refine .e ?_ (by simp (disch := first|omega|(simp only[ln];omega)) [idx_WdD (P := Tryz.prog) elT108 szT25, if_pos, h0, h1, h5, h6, h7, h8, ho, ld_ip agT25]; rfl)
   refine hK7 _ ?_
   refine .r ?_ (by simp (disch := first|omega|(simp only[ln];omega)) [h14]; rfl)
   have hga := da.gt (by omega) i
   have hgb := db.gt (by omega) i
   have hc' : 0 ≤ (if gt a i < gt b i + c then (1 : Int) else 0) ∧ (if gt a i < gt b i + c then (1 : Int) else 0) ≤ 1 := by split <;> omega
   refine ⟨a.length - (i + 1), by omega, i + 1, out.set i ((gt a i - gt b i - c) % 18446744073709551616), (if gt a i < gt b i + c then 1 else 0), rfl, by omega, by simp [ho], hd.set i (by omega) (by omega), hc'.1, hc'.2, ?_, by simp [h0], by simp [h1], by simp [h5], by simp, by simp [h13], by simp (disch := omega) [h14], by simp, rfl⟩
   rw [val_set_take (by omega), val_take_succ, val_take_succ, Int.pow_succ]
   have e : (gt a i - gt b i - c) % 18446744073709551616 = gt a i - gt b i - c + 18446744073709551616 * (if gt a i < gt b i + c then (1 : Int) else 0) := by split <;> omega
   rw [e]
   grind
  refine .q ?_ (by simp (disch := first|omega|(simp only[ln];omega)) [len_Wd (P := Tryz.prog) #[108] rfl elT108, h1]; rfl)
  refine .c (fun h20 => ?_) (fun h20 => ?_)
  ·try simp only[dc]at h20
   have hib : i < b.length := by omega
   refine .r ?_ (by simp (disch := first|omega|(simp only[ln];omega)) [idx_WdD (P := Tryz.prog) elT108 szT25, if_pos, h1, ld_ip agT25]; rfl)
   refine J10 _ ?_
   exact ⟨by simp [h0], by simp [h1], by simp [h5], by simp [h6], by simp, by simp, by simp [h13], by simp [h14], rfl, rfl⟩
  ·try simp only[dc]at h20
   refine .skip ?_
   refine J10 _ ?_
   exact ⟨by simp [h0], by simp [h1], by simp [h5], by simp [h6], by simp, by simp [gt_ge (show b.length ≤ i by omega)], by simp [h13], by simp [h14], rfl, rfl⟩
 ·try simp only[dc]at h15
  obtain rfl : i = a.length := by omega
  refine .exit ?_
  refine hK3 _ ?_
  refine .sq fun K12 hK12 => ?_
  refine AWP.frz nx 1 (wd .u64 out) (by simp) ?_
  have hfz : fz nx (wd .u64 out) (.osl nx 0 a.length) = Wd .u64 out := fz_wd (by simp [ho])
  refine .region ?_
  refine .kf 1 (trim_fc out (by omega)) hb240 ?_ (by simp (disch := first|omega|(simp only[ln];omega)) [List.take_succ_cons, List.take_zero, h5, hfz]; rfl) (ha := by simp (disch := first|omega|(simp only[ln];omega)) [idf_Wd', h5, hfz])
  refine .e ?_ (by simp (disch := first|omega|(simp only[ln];omega)) [h5, hfz]; rfl)
  refine hK12 _ ?_
  refine .ret ?_
  have hv2 : val 18446744073709551616 out = val 18446744073709551616 a - val 18446744073709551616 b := by
    rw [val_take_all (by omega), val_take_all (Nat.le_refl _), val_take_all hle] at hval
    have h1 := val_lt64 hd
    rw [ho] at h1
    have : c = 0 ∨ c = 1 := by omega
    rcases this with rfl | rfl
    · omega
    · exfalso; omega
  exact hK _ _ _ _ trivial ((Fin.mk (r := Wd .u64 (trimW out)) (by simp [aRes, aResL, aRes1])).cast (by rw [trimW_digs (by omega) hd, hv2]))

theorem val_mag_add (a b : Int) : digs 18446744073709551616 (val 18446744073709551616 (mag a) + val 18446744073709551616 (mag b)).toNat = mag ((a.natAbs : Int) + b.natAbs) := by
  rw [mag_val, mag_val]; unfold mag; congr 1
theorem addWords_mag {a b : Int} (ha : (mag a).length ≤ 549755813888) (hb : (mag b).length ≤ 549755813888) : FC Tryz.prog 171 [Wd .u64 (mag a), Wd .u64 (mag b)] (Wd .u64 (mag ((a.natAbs : Int) + b.natAbs))) := by
  rw [← val_mag_add]; exact addWords_fc _ _ ha hb (mag_dig a) (mag_dig b)
theorem subWords_mag {a b : Int} (ha : (mag a).length ≤ 549755813888) (h : b.natAbs ≤ a.natAbs) : FC Tryz.prog 173 [Wd .u64 (mag a), Wd .u64 (mag b)] (Wd .u64 (mag ((a.natAbs : Int) - b.natAbs))) := by
  have e : digs 18446744073709551616 (val 18446744073709551616 (mag a) - val 18446744073709551616 (mag b)).toNat = mag ((a.natAbs : Int) - b.natAbs) := by
    rw [mag_val, mag_val]; unfold mag; congr 1; omega
  rw [← e]
  refine subWords_fc _ _ ha ?_ (mag_dig a) (mag_dig b) (by rw [mag_val, mag_val]; omega)
  rcases Nat.lt_or_ge (mag a).length (mag b).length with h1 | h1
  · have := can_len_lt (B := 18446744073709551616) (by omega) (mag_dig a) (mag_dig b) (mag_can b) h1
    rw [mag_val, mag_val] at this; omega
  · exact h1

end Go.Proofs.YtaibemhdfhchfaaGreat

/- Walks: numbers with a sign. -/
namespace Go.Proofs.YtaibemhdfhchfaaGreat
open Go Go.RowKit
set_option linter.unusedSimpArgs false
set_option linter.unusedVariables false
set_option maxRecDepth 100000
attribute [local simp] szT2 byT2 agT2 unT2 zoT2 szT3 byT3 agT3 unT3 zoT3 szT4 byT4 agT4 unT4 zoT4 szT25 byT25 agT25 unT25 zoT25 szT108 byT108 agT108 elT108 unT108 zoT108 szT110 byT110 agT110 flT110 fdT110_0 fdT110_1 zoT110

section
attribute [local simp] idf_numI cells_numI numI_fold
theorem made_fc (b : Bool) (l : List Int) (hl : l.length ≤ 1099511627776) (hd : Dig 18446744073709551616 l) : FC Tryz.prog 167 [.bool b, Wd .u64 l] (numI (sg b (val 18446744073709551616 l))) := by
 refine .b Tryz.func167 15 (fun nx K hK => ?_)
 refine .q ?_
 refine .sq fun K2 hK2 => ?_
 refine .region ?_
 refine .kf 1 (trim_fc l hl) hb240 ?_
 refine .e ?_
 refine hK2 _ ?_
 refine .sq fun K3 hK3 => ?_
 cases b
 ·refine .r ?_ (by simp (disch := first|omega|(simp only[ln];omega)) [len_Wd (P := Tryz.prog) #[108] rfl elT108]; rfl)
  refine hK3 _ ?_
  refine .ret ?_
  exact hK _ _ _ _ trivial ((Fin.m).cast (by rw [← numI_mk hd]; simp))
 ·refine .r ?_ (by simp (disch := first|omega|(simp only[ln];omega)) [len_Wd (P := Tryz.prog) #[108] rfl elT108]; rfl)
  refine hK3 _ ?_
  refine .ret ?_
  exact hK _ _ _ _ trivial ((Fin.m).cast (by rw [← numI_mk hd]; simp))
theorem sign_fc (z : Int) : FC Tryz.prog 163 [numI z] (.int .i64 (if z < 0 then -1 else if z > 0 then 1 else 0)) := by
 refine .b Tryz.func163 11 (fun nx K hK => ?_)
 refine .q ?_
 refine .sq fun K2 hK2 => ?_
 refine .block ?_
 refine .q ?_
 refine .c (fun h3 => ?_) (fun h3 => ?_)
 ·try simp only[dc]at h3
  have hz : z < 0 := by simpa using h3
  refine .q ?_
  refine .ret ?_
  exact hK _ _ _ _ trivial (Fin.mk (by simp [aRes, aResL, aRes1, hz]))
 ·try simp only[dc]at h3
  have hz : ¬ z < 0 := by simpa using h3
  refine .q ?_ (by simp (disch := first|omega|(simp only[ln];omega)) [len_Wd (P := Tryz.prog) #[108] rfl elT108]; rfl)
  refine .c (fun h6 => ?_) (fun h6 => ?_)
  ·try simp only[dc]at h6
   have hz2 : z > 0 := by
     have h := (mag_len0 (z := z)); omega
   refine .q ?_
   refine .ret ?_
   exact hK _ _ _ _ trivial (Fin.mk (by simp [aRes, aResL, aRes1, hz, hz2]))
  ·try simp only[dc]at h6
   have hz2 : ¬ z > 0 := by
     have h := (mag_len0 (z := z)); omega
   refine .skip ?_
   refine hK2 _ ?_
   refine .q ?_
   refine .ret ?_
   exact hK _ _ _ _ trivial (Fin.mk (by simp [aRes, aResL, aRes1, hz, hz2]))
theorem minus_fc {k : Nat} {z : Int} (hz : Bg k z) (hk : k ≤ 1099511627776) : FC Tryz.prog 170 [numI z] (numI (-z)) := by
 refine .b Tryz.func170 9 (fun nx K hK => ?_)
 refine .q ?_
 refine .sq fun K2 hK2 => ?_
 refine .region ?_
 refine .kf 5 (made_fc (!decide (z < 0)) (mag z) (Nat.le_trans hz.len hk) (mag_dig z)) hb167 ?_
 refine .e ?_
 refine hK2 _ ?_
 refine .ret ?_
 exact hK _ _ _ _ trivial ((Fin.mk (r := numI (sg (!decide (z < 0)) (val 18446744073709551616 (mag z)))) (by simp [aRes, aResL, aRes1])).cast (by congr 1; rw [mag_val]; unfold sg; split <;> simp at * <;> omega))
theorem abs_fc (z : Int) : FC Tryz.prog 281 [numI z] (numI (z.natAbs : Int)) := by
 refine .b Tryz.func281 6 (fun nx K hK => ?_)
 refine .q ?_
 refine .q ?_
 refine .ret ?_
 exact hK _ _ _ _ trivial ((Fin.mk (r := .agg [.bool false, Wd .u64 (mag z)]) (by simp [aRes, aResL, aRes1])).cast (by unfold numI; rw [mag_abs]; simp))
theorem plus_fc {j k : Nat} {a b : Int} (ha : Bg j a) (hb : Bg k b) (hj : j ≤ 274877906944) (hk : k ≤ 274877906944) : FC Tryz.prog 83 [numI a, numI b] (numI (a + b)) := by
 have la : (mag a).length ≤ 274877906944 := Nat.le_trans ha.len hj
 have lb : (mag b).length ≤ 274877906944 := Nat.le_trans hb.len hk
 refine .b Tryz.func83 40 (fun nx K hK => ?_)
 refine .q ?_
 refine .sq fun K2 hK2 => ?_
 refine .q ?_
 refine .c (fun h9 => ?_) (fun h9 => ?_)
 ·try simp only[dc]at h9
  have hs : (a < 0 ↔ b < 0) := by simpa using h9
  refine .sq fun K4 hK4 => ?_
  refine .d 8 ?_
  refine .k 6 (fun fs5 hfs5 => ?_)
  refine .f (addWords_mag (a := a) (b := b) (by omega) (by omega)) hb171 ?_
  refine .f (made_fc (decide (a < 0)) (mag ((a.natAbs : Int) + b.natAbs)) (Nat.le_trans (ha.abs.add hb.abs).len (by omega)) (mag_dig _)) hb167 ?_
  refine .r 8 (by simp only[ln, hfs5];omega) ?_
  refine hK4 _ ?_
  refine .ret ?_
  exact hK _ _ _ _ trivial ((Fin.mk (r := numI (sg (decide (a < 0)) (val 18446744073709551616 (mag ((a.natAbs : Int) + b.natAbs))))) (by simp [aRes, aResL, aRes1])).cast (by congr 1; rw [mag_val]; unfold sg; split <;> simp at * <;> omega))
 ·try simp only[dc]at h9
  have hs : ¬ (a < 0 ↔ b < 0) := by simpa using h9
  refine .skip ?_
  refine hK2 _ ?_
  refine .sq fun K6 hK6 => ?_
  refine .sq fun K7 hK7 => ?_
  refine .region ?_
  refine .kf 4 (cmpWords_fc (mag a) (mag b) (by omega) (by omega)) hb172 ?_
  refine .e ?_
  refine hK7 _ ?_
  refine .c (fun h23 => ?_) (fun h23 => ?_)
  ·try simp only[dc]at h23
   have hc : b.natAbs ≤ a.natAbs := by
     have := cmpI_mag a b; omega
   refine .sq fun K8 hK8 => ?_
   refine .d 8 ?_
   refine .k 6 (fun fs9 hfs9 => ?_)
   refine .f (subWords_mag (a := a) (b := b) (by omega) hc) hb173 ?_
   refine .f (made_fc (decide (a < 0)) (mag ((a.natAbs : Int) - b.natAbs)) (Nat.le_trans (ha.abs.sub hb.abs).len (by omega)) (mag_dig _)) hb167 ?_
   refine .r 8 (by simp only[ln, hfs9];omega) ?_
   refine hK8 _ ?_
   refine .ret ?_
   exact hK _ _ _ _ trivial ((Fin.mk (r := numI (sg (decide (a < 0)) (val 18446744073709551616 (mag ((a.natAbs : Int) - b.natAbs))))) (by simp [aRes, aResL, aRes1])).cast (by congr 1; rw [mag_val]; unfold sg; split <;> simp at * <;> omega))
  ·try simp only[dc]at h23
   have hc : a.natAbs ≤ b.natAbs := by
     have := cmpI_mag a b; omega
   refine .skip ?_
   refine hK6 _ ?_
   refine .sq fun K10 hK10 => ?_
   refine .d 8 ?_
   refine .k 6 (fun fs11 hfs11 => ?_)
   refine .f (subWords_mag (a := b) (b := a) (by omega) hc) hb173 ?_
   refine .f (made_fc (decide (b < 0)) (mag ((b.natAbs : Int) - a.natAbs)) (Nat.le_trans (hb.abs.sub ha.abs).len (by omega)) (mag_dig _)) hb167 ?_
   refine .r 8 (by simp only[ln, hfs11];omega) ?_
   refine hK10 _ ?_
   refine .ret ?_
   exact hK _ _ _ _ trivial ((Fin.mk (r := numI (sg (decide (b < 0)) (val 18446744073709551616 (mag ((b.natAbs : Int) - a.natAbs))))) (by simp [aRes, aResL, aRes1])).cast (by congr 1; rw [mag_val]; unfold sg; split <;> simp at * <;> omega))
theorem less_fc {j k : Nat} {a b : Int} (ha : Bg j a) (hb : Bg k b) (hj : j ≤ 274877906944) (hk : k ≤ 274877906944) : FC Tryz.prog 82 [numI a, numI b] (numI (a - b)) := by
 refine .b Tryz.func82 9 (fun nx K hK => ?_)
 refine .q ?_
 refine .sq fun K2 hK2 => ?_
 refine .d 4 ?_
 refine .k 2 (fun fs3 hfs3 => ?_)
 refine .f (minus_fc hb (by omega)) hb170 ?_
 refine .f (plus_fc ha hb.neg hj hk) hb83 ?_
 refine .r 4 (by simp only[ln, hfs3];omega) ?_
 refine hK2 _ ?_
 refine .ret ?_
 exact hK _ _ _ _ trivial ((Fin.mk (r := numI (a + -b)) (by simp [aRes, aResL, aRes1])).cast rfl)
theorem cmp_fc {j k : Nat} {a b : Int} (ha : Bg j a) (hb : Bg k b) (hj : j ≤ 274877906943) (hk : k ≤ 274877906943) : FC Tryz.prog 78 [numI a, numI b] (.int .i64 (if a < b then -1 else if a > b then 1 else 0)) := by
 refine .b Tryz.func78 9 (fun nx K hK => ?_)
 refine .q ?_
 refine .sq fun K2 hK2 => ?_
 refine .region ?_
 refine .kf 2 (less_fc ha hb (by omega) (by omega)) hb82 ?_
 refine .f (sign_fc (a - b)) hb163 ?_
 refine .e ?_
 refine hK2 _ ?_
 refine .ret ?_
 exact hK _ _ _ _ trivial ((Fin.m).cast (by congr 1; split <;> split <;> simp at * <;> first | rfl | omega | (split <;> first | rfl | omega)))
theorem whole_fc (n : Int) (h1 : -9223372036854775808 ≤ n) (h2 : n ≤ 9223372036854775807) : FC Tryz.prog 79 [.int .i64 n] (numI n) := by
 refine .b Tryz.func79 14 (fun nx K hK => ?_)
 refine .q ?_
 refine .sq fun K2 hK2 => ?_
 refine .q ?_
 refine .c (fun h4 => ?_) (fun h4 => ?_)
 ·try simp only[dc]at h4
  have hw : IntKind.u64.wrap n = n + 18446744073709551616 := by rw [wrap_u64m]; omega
  refine .sq fun K4 hK4 => ?_
  refine .region ?_
  refine .k 4 ?_ (by simp (disch := first|omega|(simp only[ln];omega)) [List.take_succ_cons, List.take_zero, hw, wrap_u64m]; rfl)
  refine AOPS.frz1 8 (nx + 1) 1 (wd .u64 [-n]) (Wd .u64 [-n]) (by simp; rw [show -(n + 18446744073709551616) % 18446744073709551616 = -n by omega]) (by simp; rfl) ?_
  refine .f (made_fc true [-n] (by simp) (Dig.cons (by omega) (by omega) (Dig.nil _))) hb167 ?_ (ha := by simp (disch := first|omega|(simp only[ln];omega)) [idf_Wd', hw, wrap_u64m])
  refine .e ?_ (by simp (disch := first|omega|(simp only[ln];omega)) [hw, wrap_u64m]; rfl)
  refine hK4 _ ?_
  refine .ret ?_
  exact hK _ _ _ _ trivial ((Fin.mk (r := numI (sg true (val 18446744073709551616 [-n]))) (by simp [aRes, aResL, aRes1])).cast (by congr 1; simp [sg, val]))
 ·try simp only[dc]at h4
  refine .skip ?_
  refine hK2 _ ?_
  refine .sq fun K5 hK5 => ?_
  refine .region ?_
  refine .k 3 ?_
  refine AOPS.frz1 12 (nx + 1) 1 (wd .u64 [n]) (Wd .u64 [n]) (by simp) (by simp; rfl) ?_
  refine .f (made_fc false [n] (by simp) (Dig.cons (by omega) (by omega) (Dig.nil _))) hb167 ?_
  refine .e ?_
  refine hK5 _ ?_
  refine .ret ?_
  exact hK _ _ _ _ trivial ((Fin.mk (r := numI (sg false (val 18446744073709551616 [n]))) (by simp [aRes, aResL, aRes1])).cast (by congr 1; simp [sg, val]))
theorem size_fc {k : Nat} {z : Int} (hz : Bg k z) (hk : k ≤ 1099511627776) : FC Tryz.prog 164 [numI z] (.int .i64 (bitLen z.natAbs : Int)) := by
 have lz : (mag z).length ≤ 1099511627776 := Nat.le_trans hz.len hk
 refine .b Tryz.func164 19 (fun nx K hK => ?_)
 refine .q ?_
 refine .q ?_ (by simp (disch := first|omega|(simp only[ln];omega)) [len_Wd (P := Tryz.prog) #[108] rfl elT108]; rfl)
 refine .sq fun K3 hK3 => ?_
 refine .q ?_
 refine .c (fun h8 => ?_) (fun h8 => ?_)
 ·try simp only[dc]at h8
  have h0 : z = 0 := by simp at h8; exact mag_nil.mp h8
  refine .q ?_
  refine .ret ?_
  exact hK _ _ _ _ trivial (Fin.mk (by simp [aRes, aResL, aRes1, h0, bitLen]))
 ·try simp only[dc]at h8
  have h0 : 0 < (mag z).length := by simp at h8; exact List.length_pos_iff.mpr h8
  have hg := (mag_dig z).gt (by omega) ((mag z).length - 1)
  obtain ⟨q, hq⟩ : ∃ q : Nat, gt (mag z) ((mag z).length - 1) = (q : Int) := ⟨_, (Int.toNat_of_nonneg hg.1).symm⟩
  have hs := bitLen_top z q h0 hq
  have hqb : bitLen q ≤ 64 := bitLen_le64 (by omega)
  have he : (((mag z).length : Int) - 1).toNat = (mag z).length - 1 := by omega
  refine .skip ?_
  refine hK3 _ ?_
  refine .sq fun K6 hK6 => ?_
  refine .region ?_
  refine .kf 8 (lz64_fc q (by omega)) hb237 ?_ (by simp (disch := first|omega|(simp only[ln];omega)) [List.take_succ_cons, List.take_zero, idx_WdD (P := Tryz.prog) elT108 szT25, if_pos, he, hq, ld_ip agT25]; rfl) (ha := by simp (disch := first|omega|(simp only[ln];omega)) [idf_Wd', idx_WdD (P := Tryz.prog) elT108 szT25, if_pos, he, hq, ld_ip agT25])
  refine .e ?_ (by simp (disch := first|omega|(simp only[ln];omega)) [idx_WdD (P := Tryz.prog) elT108 szT25, if_pos, he, hq, ld_ip agT25]; rfl)
  refine hK6 _ ?_
  refine .ret ?_
  exact hK _ _ _ _ trivial ((Fin.mk (by simp (disch := omega) [aRes, aResL, aRes1]; rfl)).cast (by congr 1; omega))
end

end Go.Proofs.YtaibemhdfhchfaaGreat

/- Walks: products. -/
namespace Go.Proofs.YtaibemhdfhchfaaGreat
open Go Go.RowKit
set_option linter.unusedSimpArgs false
set_option linter.unusedVariables false
set_option maxRecDepth 100000
attribute [local simp] szT3 byT3 agT3 unT3 zoT3 szT4 byT4 agT4 unT4 zoT4 szT25 byT25 agT25 unT25 zoT25 szT108 byT108 agT108 elT108 unT108 zoT108 szT110 byT110 agT110 flT110 fdT110_0 fdT110_1 zoT110

theorem sg_mul (a b : Int) : numI (sg (!(decide (a < 0) == decide (b < 0))) ((a.natAbs : Int) * (b.natAbs : Int))) = numI (a * b) := by
  congr 1
  rw [← Int.natCast_mul, ← Int.natAbs_mul]
  by_cases ha : a < 0 <;> by_cases hb : b < 0
  · have := Int.mul_nonneg (show 0 ≤ -a by omega) (show 0 ≤ -b by omega)
    rw [Int.neg_mul_neg] at this
    simp [sg, ha, hb]; omega
  · have := Int.mul_nonneg (show 0 ≤ -a by omega) (show 0 ≤ b by omega)
    rw [Int.neg_mul] at this
    simp [sg, ha, hb]; omega
  · have := Int.mul_nonneg (show 0 ≤ a by omega) (show 0 ≤ -b by omega)
    rw [Int.mul_neg] at this
    simp [sg, ha, hb]; omega
  · have := Int.mul_nonneg (show 0 ≤ a by omega) (show 0 ≤ b by omega)
    simp [sg, ha, hb]; omega
/-- The variables of 'by'. -/
def heapBy (nx : Nat) (a b : Int) : Heap := hupd (hupd (hupd (fun _ => none) nx (some (2, [[.bool (decide (a < 0)), Wd .u64 (mag a)]]))) (nx + 1) (some (2, [[.bool (decide (b < 0)), Wd .u64 (mag b)]]))) (nx + 1 + 1) (some (2, [[.bool false, .nsl]]))
theorem mul_step {x y o c : Int} (hx : 0 ≤ x ∧ x < 18446744073709551616) (hy : 0 ≤ y ∧ y < 18446744073709551616) (ho : 0 ≤ o ∧ o < 18446744073709551616) (hc : 0 ≤ c ∧ c < 18446744073709551616) :
    0 ≤ x * y / 18446744073709551616 + (x * y % 18446744073709551616 + c) / 18446744073709551616 ∧ x * y / 18446744073709551616 + (x * y % 18446744073709551616 + c) / 18446744073709551616 < 18446744073709551616 ∧
    0 ≤ x * y / 18446744073709551616 + (x * y % 18446744073709551616 + c) / 18446744073709551616 + (o + (x * y % 18446744073709551616 + c) % 18446744073709551616) / 18446744073709551616 ∧ x * y / 18446744073709551616 + (x * y % 18446744073709551616 + c) / 18446744073709551616 + (o + (x * y % 18446744073709551616 + c) % 18446744073709551616) / 18446744073709551616 < 18446744073709551616 ∧
    (o + (x * y + c)) % 18446744073709551616 + 18446744073709551616 * (x * y / 18446744073709551616 + (x * y % 18446744073709551616 + c) / 18446744073709551616 + (o + (x * y % 18446744073709551616 + c) % 18446744073709551616) / 18446744073709551616) = x * y + o + c := by
  have h0 : 0 ≤ x * y := Int.mul_nonneg hx.1 hy.1
  have h1 : x * y ≤ 18446744073709551615 * 18446744073709551615 := Int.mul_le_mul (by omega) (by omega) hy.1 (by omega)
  generalize x * y = p at *
  omega

section
attribute [local simp] idf_numI cells_numI numI_fold
set_option maxHeartbeats 1000000 in
theorem by_fc {j k : Nat} {a b : Int} (ha : Bg j a) (hb : Bg k b) (hj : j ≤ 274877906944) (hk : k ≤ 274877906944) : FC Tryz.prog 80 [numI a, numI b] (numI (a * b)) := by
 have la : (mag a).length ≤ 274877906944 := Nat.le_trans ha.len hj
 have lb : (mag b).length ≤ 274877906944 := Nat.le_trans hb.len hk
 have da := mag_dig a
 have db := mag_dig b
 refine .b Tryz.func80 100 (fun nx K hK => ?_)
 refine .q ?_
 refine .sq fun K2 hK2 => ?_
 refine .sq fun K3 hK3 => ?_
 by_cases ha0 : mag a = []
 ·refine .r ?_ (by simp (disch := first|omega|(simp only[ln];omega)) [len_Wd (P := Tryz.prog) #[108] rfl elT108, ha0]; rfl)
  refine hK3 _ ?_
  refine .c (fun h23 => ?_) (fun h23 => ?_)
  ·try simp only[dc]at h23
   refine .q ?_
   refine .ret ?_
   exact hK _ _ _ _ trivial ((Fin.mk (r := .agg [.bool false, .nsl]) (by simp [aRes, aResL, aRes1])).weak (by rw [mag_nil.mp ha0, Int.zero_mul]; exact fun _ _ _ _ => num0_weak))
  ·simp at h23
 ·have ea : (((mag a).length : Int) == 0) = false := beq_eq_false_iff_ne.mpr (by have := List.length_pos_iff.mpr ha0; omega)
  by_cases hb0 : mag b = []
  ·refine .r ?_ (by simp (disch := first|omega|(simp only[ln];omega)) [len_Wd (P := Tryz.prog) #[108] rfl elT108, ea, hb0]; rfl)
   refine hK3 _ ?_
   refine .c (fun h23 => ?_) (fun h23 => ?_)
   ·try simp only[dc]at h23
    refine .q ?_
    refine .ret ?_
    exact hK _ _ _ _ trivial ((Fin.mk (r := .agg [.bool false, .nsl]) (by simp [aRes, aResL, aRes1])).weak (by rw [mag_nil.mp hb0, Int.mul_zero]; exact fun _ _ _ _ => num0_weak))
   ·simp at h23
  ·have eb : (((mag b).length : Int) == 0) = false := beq_eq_false_iff_ne.mpr (by have := List.length_pos_iff.mpr hb0; omega)
   refine .r ?_ (by simp (disch := first|omega|(simp only[ln];omega)) [len_Wd (P := Tryz.prog) #[108] rfl elT108, ea, eb]; rfl)
   refine hK3 _ ?_
   refine .c (fun h23 => ?_) (fun h23 => ?_)
   ·simp at h23
   ·try simp only[dc]at h23
    refine .skip ?_
    refine hK2 _ ?_
    refine .q ?_ (by simp (disch := first|omega|(simp only[ln];omega)) [if_pos, len_Wd (P := Tryz.prog) #[108] rfl elT108]; rfl)
    refine .sq fun K7 hK7 => ?_
    refine .q ?_ (by simp (disch := first|omega|(simp only[ln];omega)) [len_Wd (P := Tryz.prog) #[108] rfl elT108]; rfl)
    refine .block ?_
    refine .loop (fun n s => ∃ i out, n = (mag a).length - i ∧ i ≤ (mag a).length ∧ out.length = (mag a).length + (mag b).length ∧ Dig 18446744073709551616 out ∧ val 18446744073709551616 out = val 18446744073709551616 ((mag a).take i) * val 18446744073709551616 (mag b) ∧ (∀ q, i + (mag b).length ≤ q → gt out q = 0) ∧ s.env 2 = .ptr nx 0 0 ∧ s.env 3 = .ptr (nx + 1) 0 0 ∧ s.env 4 = .ptr (nx + 1 + 1) 0 0 ∧ s.env 5 = .osl (nx + 1 + 1 + 1) 0 ((mag a).length + (mag b).length) ∧ s.env 34 = Wd .u64 (mag a) ∧ s.env 35 = .int .i64 (mag a).length ∧ s.env 36 = .int .i64 (i : Int) ∧ s.heap = hupd (heapBy nx a b) (nx + 1 + 1 + 1) (some (1, wd .u64 out)) ∧ s.nt = 100) ((mag a).length) (⟨0, List.replicate ((mag a).length + (mag b).length) 0, by omega, by omega, by simp, Dig.replicate _ (by omega) (by omega), by simp [val, val_replicate], by intro q _; simp [gt, List.getElem?_replicate]; split <;> rfl, by simp, by simp, by simp, by simp; omega, by simp, by simp, by simp, by simp [heapBy]; rfl, rfl⟩) ?_
    rintro n ⟨e, H, nx2, nt⟩ ⟨i, out, rfl, hi, ho, hd, hval, hz, h2, h3, h4, h5, h34, h35, h36, rfl, rfl⟩
    simp only [] at h2 h3 h4 h5 h34 h35 h36
    refine .q ?_ (by simp (disch := first|omega|(simp only[ln];omega)) [h35, h36]; rfl)
    refine .sq fun K10 hK10 => ?_
    refine .c (fun h37 => ?_) (fun h37 => ?_)
    ·try simp only[dc]at h37
     have hi' : i < (mag a).length := by omega
     refine .skip ?_
     refine hK10 _ ?_
     refine .sq fun K11 hK11 => ?_
     refine .block ?_
     refine .q ?_ (by simp (disch := first|omega|(simp only[ln];omega)) [idx_WdD (P := Tryz.prog) elT108 szT25, if_pos, h34, h36, ld_ip agT25]; rfl)
     refine .q ?_
     refine .sq fun K14 hK14 => ?_
     refine .q ?_ (by simp (disch := first|omega|(simp only[ln];omega)) [len_Wd (P := Tryz.prog) #[108] rfl elT108, h3, heapBy]; rfl)
     refine .block ?_
     refine .loop (fun n s => ∃ q out2 c, n = (mag b).length - q ∧ q ≤ (mag b).length ∧ out2.length = (mag a).length + (mag b).length ∧ Dig 18446744073709551616 out2 ∧ 0 ≤ c ∧ c < 18446744073709551616 ∧ val 18446744073709551616 out2 + c * (18446744073709551616 : Int) ^ (i + q) = val 18446744073709551616 ((mag a).take i) * val 18446744073709551616 (mag b) + (18446744073709551616 : Int) ^ i * gt (mag a) i * val 18446744073709551616 ((mag b).take q) ∧ (∀ j, i + (mag b).length ≤ j → gt out2 j = 0) ∧ s.env 2 = .ptr nx 0 0 ∧ s.env 3 = .ptr (nx + 1) 0 0 ∧ s.env 4 = .ptr (nx + 1 + 1) 0 0 ∧ s.env 5 = .osl (nx + 1 + 1 + 1) 0 ((mag a).length + (mag b).length) ∧ s.env 6 = .int .i64 (i : Int) ∧ s.env 7 = .int .u64 (gt (mag a) i) ∧ s.env 8 = .int .u64 c ∧ s.env 34 = Wd .u64 (mag a) ∧ s.env 35 = .int .i64 (mag a).length ∧ s.env 36 = .int .i64 (i : Int) ∧ s.env 42 = Wd .u64 (mag b) ∧ s.env 43 = .int .i64 (mag b).length ∧ s.env 44 = .int .i64 (q : Int) ∧ s.heap = hupd (heapBy nx a b) (nx + 1 + 1 + 1) (some (1, wd .u64 out2)) ∧ s.nt = 100) ((mag b).length) (⟨0, out, 0, by omega, by omega, ho, hd, by omega, by omega, by simp [val, hval], hz, by simp [h2], by simp [h3], by simp [h4], by simp [h5], by simp, by simp, by simp, by simp [h34], by simp [h35], by simp [h36], by simp, by simp, by simp, rfl, rfl⟩) ?_
     clear h2 h3 h4 h5 h34 h35 h36
     rintro n ⟨e, H, nx2, nt⟩ ⟨q, out2, c, rfl, hq, ho2, hd2, hc0, hc1, hval2, hz2, h2, h3, h4, h5, h6, h7, h8, h34, h35, h36, h42, h43, h44, rfl, rfl⟩
     simp only [] at h2 h3 h4 h5 h6 h7 h8 h34 h35 h36 h42 h43 h44
     refine .q ?_ (by simp (disch := first|omega|(simp only[ln];omega)) [h43, h44]; rfl)
     refine .sq fun K17 hK17 => ?_
     refine .c (fun h45 => ?_) (fun h45 => ?_)
     ·try simp only[dc]at h45
      have hq' : q < (mag b).length := by omega
      have hgx := da.gt (by omega) i
      have hgy := db.gt (by omega) q
      have hgo := hd2.gt (by omega) (i + q)
      have hms := mul_step hgx hgy hgo ⟨hc0, hc1⟩
      have hpr0 : 0 ≤ gt (mag a) i * gt (mag b) q := Int.mul_nonneg hgx.1 hgy.1
      have hiq : ((i : Int) + (q : Int)).toNat = i + q := by omega
      refine .skip ?_
      refine hK17 _ ?_
      refine .sq fun K18 hK18 => ?_
      refine .block ?_
      refine .q ?_ (by simp (disch := first|omega|(simp only[ln];omega)) [idx_WdD (P := Tryz.prog) elT108 szT25, if_pos, h42, h44, ld_ip agT25]; rfl)
      refine .sq fun K20 hK20 => ?_
      refine .region ?_
      refine .kf 2 (mul64_fc (gt (mag a) i) (gt (mag b) q) hgx.1 hgx.2 hgy.1 hgy.2) hb168 ?_ (by simp (disch := first|omega|(simp only[ln];omega)) [List.take_succ_cons, List.take_zero, h7]; rfl) (ha := by simp (disch := first|omega|(simp only[ln];omega)) [idf_Wd', h7])
      refine .e ?_ (by simp (disch := first|omega|(simp only[ln];omega)) [h7]; rfl)
      refine hK20 _ ?_
      refine .q ?_
      refine .sq fun K22 hK22 => ?_
      refine .region ?_
      refine .k 2 ?_ (by simp (disch := first|omega|(simp only[ln];omega)) [List.take_succ_cons, List.take_zero, h8]; rfl)
      refine .en (FE.add64 nb169 (gt (mag a) i * gt (mag b) q % 18446744073709551616) c 0 (by omega) hc0 (by omega) (by omega)) ?_ (ha := by simp (disch := first|omega|(simp only[ln];omega)) [idf_Wd', h8])
      refine .e ?_ (by simp (disch := first|omega|(simp only[ln];omega)) [h8]; rfl)
      refine hK22 _ ?_
      refine .q ?_
      refine .sq fun K24 hK24 => ?_
      refine .region ?_
      refine .k 11 ?_ (by simp (disch := first|omega|(simp only[ln];omega)) [List.take_succ_cons, List.take_zero, idx_WdD (P := Tryz.prog) elT108 szT25, if_pos, h5, h6, hiq, ho2, ld_ip agT25]; rfl)
      refine .en (FE.add64 nb169 (gt out2 (i + q)) ((gt (mag a) i * gt (mag b) q % 18446744073709551616 + c) % 18446744073709551616) 0 hgo.1 (by omega) (by omega) (by omega)) ?_ (ha := by simp (disch := first|omega|(simp only[ln];omega)) [idf_Wd', idx_WdD (P := Tryz.prog) elT108 szT25, if_pos, h5, h6, hiq, ho2, ld_ip agT25])
      refine .e ?_ (by simp (disch := first|omega|(simp only[ln];omega)) [idx_WdD (P := Tryz.prog) elT108 szT25, if_pos, h5, h6, hiq, ho2, ld_ip agT25]; rfl)
      refine hK24 _ ?_
      refine .r ?_
      refine hK18 _ ?_
      refine .r ?_ (by simp (disch := first|omega|(simp only[ln];omega)) [h44]; rfl)
      have hp1 : (18446744073709551616 : Int) ^ (i + (q + 1)) = (18446744073709551616 : Int) ^ i * (18446744073709551616 : Int) ^ q * 18446744073709551616 := by rw [← Nat.add_assoc, Int.pow_succ, Int.pow_add]
      have hp2 : (18446744073709551616 : Int) ^ (i + q) = (18446744073709551616 : Int) ^ i * (18446744073709551616 : Int) ^ q := Int.pow_add _ _ _
      refine ⟨(mag b).length - (q + 1), by omega, q + 1, out2.set (i + q) ((gt out2 (i + q) + (gt (mag a) i * gt (mag b) q + c)) % 18446744073709551616), _, rfl, by omega, by simp [ho2], hd2.set _ (Int.emod_nonneg _ (by omega)) (Int.emod_lt_of_pos _ (by omega)), hms.2.2.1, hms.2.2.2.1, ?_, fun j hj => by rw [gt_set_ne (by omega)]; exact hz2 j (by omega), by simp [h2], by simp [h3], by simp [h4], by simp [h5], by simp [h6], by simp [h7], by simp, by simp [h34], by simp [h35], by simp [h36], by simp [h42], by simp [h43], by simp (disch := omega) [h44], by simp, rfl⟩
      rw [val_setB (by omega), val_take64, hp1]
      rw [hp2] at hval2 ⊢
      have := hms.2.2.2.2
      grind
     ·try simp only[dc]at h45
      obtain rfl : q = (mag b).length := by omega
      refine .exit ?_
      refine hK14 _ ?_
      have hil : ((i : Int) + ((mag b).length : Int)).toNat = i + (mag b).length := by omega
      refine .r ?_ (by simp (disch := first|omega|(simp only[ln];omega)) [idx_WdD (P := Tryz.prog) elT108 szT25, if_pos, len_Wd (P := Tryz.prog) #[108] rfl elT108, h3, h5, h6, h8, heapBy, ho2, hil]; rfl)
      refine hK11 _ ?_
      refine .r ?_ (by simp (disch := first|omega|(simp only[ln];omega)) [h36]; rfl)
      have hpw : (18446744073709551616 : Int) ^ (i + (mag b).length) = (18446744073709551616 : Int) ^ i * (18446744073709551616 : Int) ^ (mag b).length := Int.pow_add _ _ _
      refine ⟨(mag a).length - (i + 1), by omega, i + 1, out2.set (i + (mag b).length) c, rfl, by omega, by simp [ho2], hd2.set _ hc0 hc1, ?_, fun j hj => by rw [gt_set_ne (by omega)]; exact hz2 j (by omega), by simp [h2], by simp [h3], by simp [h4], by simp [h5], by simp [h34], by simp [h35], by simp (disch := omega) [h36], by simp [heapBy], rfl⟩
      rw [val_take_all (Nat.le_refl _)] at hval2
      rw [val_setB (by omega), hz2 _ (Nat.le_refl _), val_take64]
      grind
    ·try simp only[dc]at h37
     obtain rfl : i = (mag a).length := by omega
     refine .exit ?_
     refine hK7 _ ?_
     refine .sq fun K25 hK25 => ?_
     refine .region ?_
     refine .k 6 ?_ (by simp (disch := first|omega|(simp only[ln];omega)) [List.take_succ_cons, List.take_zero, h2, h3, h4, h5, heapBy]; rfl)
     refine AOPS.frz1 98 (nx + 1 + 1 + 1) 1 (wd .u64 out) (Wd .u64 out) (by simp) (by simp; first | exact fz_wd (by omega) | exact isl_take_wd (by omega)) ?_
     refine .f (made_fc (!(decide (a < 0) == decide (b < 0))) out (by omega) hd) hb167 ?_ (ha := by simp (disch := first|omega|(simp only[ln];omega)) [idf_Wd', h2, h3, h4, h5, heapBy])
     refine .e ?_ (by simp (disch := first|omega|(simp only[ln];omega)) [h2, h3, h4, h5, heapBy]; rfl)
     refine hK25 _ ?_
     refine .ret ?_
     exact hK _ _ _ _ trivial ((Fin.mk (r := numI (sg (!(decide (a < 0) == decide (b < 0))) (val 18446744073709551616 out))) (by simp [aRes, aResL, aRes1, h4])).cast (by rw [hval, val_take_all (Nat.le_refl _), mag_val, mag_val, sg_mul]))
end

end Go.Proofs.YtaibemhdfhchfaaGreat

/- Walks: numbers of 256 bits made numbers of any size. -/
namespace Go.Proofs.YtaibemhdfhchfaaGreat
open Go Go.RowKit
set_option linter.unusedSimpArgs false
set_option linter.unusedVariables false
set_option maxRecDepth 100000
attribute [local simp] szT3 byT3 agT3 unT3 zoT3 szT4 byT4 agT4 unT4 zoT4 szT25 byT25 agT25 unT25 zoT25 szT27 byT27 agT27 flT27 fdT27_0 fdT27_1 fdT27_2 fdT27_3 zoT27 szT108 byT108 agT108 elT108 unT108 zoT108 szT110 byT110 agT110 flT110 fdT110_0 fdT110_1 zoT110

theorem digs_len5 {l : List Int} (h : Dig 18446744073709551616 l) : (digs 18446744073709551616 (val 18446744073709551616 (trimW l) + val 18446744073709551616 [1]).toNat).length ≤ l.length + 1 := by
  refine digs_length_le (by omega) _ _ ?_
  have h1 := val_lt h
  have h2 := val_nonneg h
  rw [trimW_val]
  have e : ((18446744073709551616 : Nat) : Int) ^ l.length = ((18446744073709551616 ^ l.length : Nat) : Int) := by rw [Int.natCast_pow]
  rw [e] at h1
  rw [Nat.pow_succ]
  simp only [val]
  omega

section
attribute [local simp] idf_numI cells_numI numI_fold
set_option maxHeartbeats 1000000 in
theorem wideNum_fc (w3 w2 w1 w0 : Int) (h3 : U64 w3) (h2 : U64 w2) (h1 : U64 w1) (h0 : U64 w0) : FC Tryz.prog 166 [wdI w3 w2 w1 w0] (numI (sval w3 w2 w1 w0)) := by
 refine .b Tryz.func166 39 (fun nx K hK => ?_) (hi := by simp [idfL, idf, wdI])
 unfold wdI
 have hd4 := dig4 h0 h1 h2 h3
 unfold U64 at h0 h1 h2 h3
 refine .q ?_
 refine .q ?_
 refine .sq fun K3 hK3 => ?_
 refine .q ?_ (by simp (disch := first|omega|(simp only[ln];omega)) [IntKind.bits, Int.fdiv_eq_ediv_of_nonneg]; rfl)
 refine .c (fun h17 => ?_) (fun h17 => ?_)
 ·try simp only[dc]at h17
  have hs : w3 < 9223372036854775808 := by simp at h17; omega
  refine .sq fun K5 hK5 => ?_
  refine .region ?_
  refine .k 1 ?_
  refine AOPS.frz1 18 (nx + 1 + 1) 1 (wd .u64 [w0, w1, w2, w3]) (Wd .u64 [w0, w1, w2, w3]) (by simp) (by simp; first | exact fz_wd rfl | exact isl_take_wd (by simp)) ?_
  refine .f (made_fc false [w0, w1, w2, w3] (by simp) hd4) hb167 ?_
  refine .e ?_
  refine hK5 _ ?_
  refine .ret ?_
  exact hK _ _ _ _ trivial ((Fin.mk (r := numI (sg false (val 18446744073709551616 [w0, w1, w2, w3]))) (by simp [aRes, aResL, aRes1])).cast (by rw [sg_false, val4, sval, if_pos hs]))
 ·try simp only[dc]at h17
  have hs : ¬ w3 < 9223372036854775808 := by simp at h17; omega
  refine .skip ?_
  refine hK3 _ ?_
  refine .sq fun K6 hK6 => ?_
  refine .q ?_ (by simp (disch := first|omega|(simp only[ln];omega)) [len_Wd (P := Tryz.prog) #[108] rfl elT108]; rfl)
  refine .block ?_
  refine .loop (fun n s => ∃ i out, n = 4 - i ∧ i ≤ 4 ∧ out.length = 4 ∧ (∀ j, j < 4 → gt out j = if j < i then 18446744073709551615 - gt [w0, w1, w2, w3] j else gt [w0, w1, w2, w3] j) ∧ s.env 2 = .ptr (nx + 1) 0 0 ∧ s.env 3 = .osl (nx + 1 + 1) 0 4 ∧ s.env 21 = .int .i64 4 ∧ s.env 22 = .int .i64 (i : Int) ∧ s.heap = hupd (hupd (hupd (fun _ => none) nx (some (4, [[.int .u64 w3, .int .u64 w2, .int .u64 w1, .int .u64 w0]]))) (nx + 1) (some (2, [[.bool false, .nsl]]))) (nx + 1 + 1) (some (1, wd .u64 out)) ∧ s.nx = nx + 1 + 1 + 1 ∧ s.nt = 39) (4) (⟨0, [w0, w1, w2, w3], by omega, by omega, rfl, by intro j hj; simp, by simp, by simp, by simp, by simp, by simp, rfl, rfl⟩) ?_
  rintro n ⟨e, H, nx2, nt⟩ ⟨i, out, rfl, hi, ho, hg, h2', h3', h21, h22, rfl, rfl, rfl⟩
  simp only [] at h2' h3' h21 h22
  refine .q ?_ (by simp (disch := first|omega|(simp only[ln];omega)) [h21, h22]; rfl)
  refine .sq fun K9 hK9 => ?_
  refine .c (fun h23 => ?_) (fun h23 => ?_)
  ·try simp only[dc]at h23
   have hi' : i < 4 := by omega
   have hgi : 0 ≤ gt out i ∧ gt out i < 18446744073709551616 := by
     have := hg i hi'
     rw [if_neg (Nat.lt_irrefl i)] at this
     rw [this]; exact hd4.gt (by omega) i
   have hx := not_u64 hgi.1 hgi.2
   refine .skip ?_
   refine hK9 _ ?_
   refine .sq fun K10 hK10 => ?_
   refine .block ?_
   refine .q ?_ (by simp (disch := first|omega|(simp only[ln];omega)) [h22]; rfl)
   refine .r ?_ (by simp (disch := first|omega|(simp only[ln];omega)) [idx_WdD (P := Tryz.prog) elT108 szT25, if_pos, h3', ho, hx, ld_ip agT25]; rfl)
   refine hK10 _ ?_
   refine .r ?_ (by simp (disch := first|omega|(simp only[ln];omega)) [h22]; rfl)
   refine ⟨4 - (i + 1), by omega, i + 1, out.set i (18446744073709551615 - gt out i), rfl, by omega, by simp [ho], ?_, by simp [h2'], by simp [h3'], by simp [h21], by simp (disch := omega) [h22], by simp, rfl, rfl⟩
   intro j hj
   by_cases hji : j = i
   · subst hji; rw [gt_set (by omega), hg _ hj]; simp
   · rw [gt_set_ne (Ne.symm hji), hg _ hj]
     by_cases hlt : j < i
     · rw [if_pos hlt, if_pos (by omega)]
     · rw [if_neg hlt, if_neg (by omega)]
  ·try simp only[dc]at h23
   obtain rfl : i = 4 := by omega
   obtain rfl : out = [18446744073709551615 - w0, 18446744073709551615 - w1, 18446744073709551615 - w2, 18446744073709551615 - w3] := by
     rw [list4 ho, hg 0 (by omega), hg 1 (by omega), hg 2 (by omega), hg 3 (by omega)]; rfl
   refine .exit ?_
   refine hK6 _ ?_
   refine .sq fun K12 hK12 => ?_
   have hdo : Dig 18446744073709551616 [18446744073709551615 - w0, 18446744073709551615 - w1, 18446744073709551615 - w2, 18446744073709551615 - w3] := dig4 ⟨by omega, by omega⟩ ⟨by omega, by omega⟩ ⟨by omega, by omega⟩ ⟨by omega, by omega⟩
   refine .region ?_
   refine .k 1 ?_ (by simp (disch := first|omega|(simp only[ln];omega)) [List.take_succ_cons, List.take_zero, h2', h3']; rfl)
   refine AOPS.frz1 34 (nx + 1 + 1) 1 (wd .u64 [18446744073709551615 - w0, 18446744073709551615 - w1, 18446744073709551615 - w2, 18446744073709551615 - w3]) (Wd .u64 [18446744073709551615 - w0, 18446744073709551615 - w1, 18446744073709551615 - w2, 18446744073709551615 - w3]) (by simp) (by simp [h3']; first | exact fz_wd rfl | exact isl_take_wd (by simp)) ?_
   refine .f (trim_fc [18446744073709551615 - w0, 18446744073709551615 - w1, 18446744073709551615 - w2, 18446744073709551615 - w3] (by simp)) hb240 ?_ (ha := by simp (disch := first|omega|(simp only[ln];omega)) [idf_Wd', h2', h3'])
   refine .k 1 ?_ (by simp (disch := first|omega|(simp only[ln];omega)) [List.take_succ_cons, List.take_zero, h2', h3']; rfl)
   refine AOPS.frz1 36 (nx + 1 + 1 + 1) 1 (wd .u64 [1]) (Wd .u64 [1]) (by simp) (by simp; first | exact fz_wd rfl | exact isl_take_wd (by simp)) ?_
   refine .f (addWords_fc (trimW [18446744073709551615 - w0, 18446744073709551615 - w1, 18446744073709551615 - w2, 18446744073709551615 - w3]) [1] (Nat.le_trans (trimW_length _) (by simp)) (by simp) (hdo.trim) (Dig.cons (by omega) (by omega) (Dig.nil _))) hb171 ?_ (ha := by simp (disch := first|omega|(simp only[ln];omega)) [idf_Wd', h2', h3'])
   refine .f (made_fc true (digs 18446744073709551616 (val 18446744073709551616 (trimW [18446744073709551615 - w0, 18446744073709551615 - w1, 18446744073709551615 - w2, 18446744073709551615 - w3]) + val 18446744073709551616 [1]).toNat) (Nat.le_trans (digs_len5 hdo) (by simp)) (digs_dig (by omega) _)) hb167 ?_ (ha := by simp (disch := first|omega|(simp only[ln];omega)) [idf_Wd', h2', h3'])
   refine .e ?_ (by simp (disch := first|omega|(simp only[ln];omega)) [h2', h3']; rfl)
   refine hK12 _ ?_
   refine .ret ?_
   exact hK _ _ _ _ trivial ((Fin.mk (r := numI (sg true (val 18446744073709551616 (digs 18446744073709551616 (val 18446744073709551616 (trimW [18446744073709551615 - w0, 18446744073709551615 - w1, 18446744073709551615 - w2, 18446744073709551615 - w3]) + val 18446744073709551616 [1]).toNat)))) (by simp [aRes, aResL, aRes1, h2'])).cast (by rw [sg_true, digs_val (by omega), trimW_val, val4, comp4, sval, if_neg hs]; congr 1; simp [val]; unfold uval; omega))
end

end Go.Proofs.YtaibemhdfhchfaaGreat

/- Walks: copies of rows; numbers told in 256 bits. -/
namespace Go.Proofs.YtaibemhdfhchfaaGreat
open Go Go.RowKit
set_option linter.unusedSimpArgs false
set_option linter.unusedVariables false
set_option maxRecDepth 100000
attribute [local simp] szT2 byT2 agT2 unT2 zoT2 szT3 byT3 agT3 unT3 zoT3 szT4 byT4 agT4 unT4 zoT4 szT25 byT25 agT25 unT25 zoT25 szT27 byT27 agT27 flT27 fdT27_0 fdT27_1 fdT27_2 fdT27_3 zoT27 szT108 byT108 agT108 elT108 unT108 zoT108 szT110 byT110 agT110 flT110 fdT110_0 fdT110_1 zoT110

theorem gt_app0 (l : List Int) (j : Nat) : gt (l ++ [0, 0, 0, 0]) j = gt l j := by
  unfold gt
  by_cases h : j < l.length
  · rw [List.getElem?_append_left h]
  · rw [List.getElem?_append_right (by omega), List.getElem?_eq_none (l := l) (by omega)]
    match j - l.length with
    | 0 => rfl
    | 1 => rfl
    | 2 => rfl
    | 3 => rfl
    | k + 4 => simp

section
attribute [local simp] idf_numI cells_numI numI_fold
theorem clone_fc (l : List Int) (hl : l.length ≤ 1099511627776) : FC Tryz.prog 239 [Wd .u64 l] (Wd .u64 l) := by
 refine .b Tryz.func239 8 (fun nx K hK => ?_)
 refine .q ?_
 refine .sq fun K2 hK2 => ?_
 refine .sq fun K3 hK3 => ?_
 refine AWP.region ?_
 refine AOPS.runk 1 (by simp (disch := first|omega|(simp only[ln];omega)) [List.take_succ_cons, List.take_zero]; rfl) ?_
 simp only [List.drop_succ_cons, List.drop_zero]
 refine AOPS.isnil (k := .u64) (l := l) rfl unT108 (by simp) (by simp) (by simp) fun q hq => ?_
 simp only [puts_some]
 refine AOPS.nil ?_
 refine hK3 _ ?_
 refine .c (fun h4 => ?_) (fun h4 => ?_)
 ·try simp only[dc]at h4
  refine .q ?_
  refine .ret ?_
  exact hK _ _ _ _ trivial ((Fin.mk (r := .nsl) (by simp [aRes, aResL, aRes1])).weak (by rw [hq h4]; exact fun _ _ _ _ => nsl_Wd .u64))
 ·try simp only[dc]at h4
  refine .skip ?_
  refine hK2 _ ?_
  refine .sq fun K5 hK5 => ?_
  refine .region ?_
  refine .k 2 ?_
  refine AOPS.opapp (by simp (disch := first|omega|(simp only[ln];omega)) [opApp.eq_def, aSrc_isl, aSrc_osl, aSrc_nsl, aSrc_int, wd_app, wd_app2, if_pos, wd_append, wd_take, wd_drop, List.nil_append, src_Wd' (P := Tryz.prog) elT108]; first | rfl | exact ⟨rfl, rfl⟩ | exact ⟨rfl, rfl, rfl⟩) (by simp) (by simp) ?_
  simp only [puts_some, hdrop]
  refine .e ?_
  refine hK5 _ ?_
  refine .ret ?_
  exact hK _ _ _ _ trivial (((Fin.mk (r := .osl (nx + 1) 0 l.length) (by simp [aRes, aResL, aRes1])).freeze (id := nx + 1) (z := 1) (es := wd .u64 l) (by simp)).cast (fz_wd rfl))
theorem clone_ac (l : List Int) (hl : l.length ≤ 1099511627776) (H : Heap) (nx : Nat) : ACall Tryz.prog 239 [Wd .u64 l] H nx (fun r H' nx' => (l = [] ∧ r = .nsl ∧ H' = H ∧ nx' = nx) ∨ (r = .osl (nx + 1) 0 l.length ∧ H' = hupd (hupd H nx none) (nx + 1) (some (1, wd .u64 l)) ∧ nx' = nx + 1 + 1)) := by
 refine .b Tryz.func239 8 fun K hK => ?_
 refine .q ?_
 refine .sq fun K2 hK2 => ?_
 refine .sq fun K3 hK3 => ?_
 refine AWP.region ?_
 refine AOPS.runk 1 (by simp (disch := first|omega|(simp only[ln];omega)) [List.take_succ_cons, List.take_zero]; rfl) ?_
 simp only [List.drop_succ_cons, List.drop_zero]
 refine AOPS.isnil (k := .u64) (l := l) rfl unT108 (by simp) (by simp) (by simp) fun q hq => ?_
 simp only [puts_some]
 refine AOPS.nil ?_
 refine hK3 _ ?_
 refine .c (fun h4 => ?_) (fun h4 => ?_)
 ·try simp only[dc]at h4
  refine .q ?_
  refine .ret ?_
  exact hK _ _ _ _ _ trivial (Fin.mk (r := .nsl) (by simp [aRes, aResL, aRes1])) (Or.inl ⟨hq h4, rfl, rfl, rfl⟩)
 ·try simp only[dc]at h4
  refine .skip ?_
  refine hK2 _ ?_
  refine .sq fun K5 hK5 => ?_
  refine .region ?_
  refine .k 2 ?_
  refine AOPS.opapp (by simp (disch := first|omega|(simp only[ln];omega)) [opApp.eq_def, aSrc_isl, aSrc_osl, aSrc_nsl, aSrc_int, wd_app, wd_app2, if_pos, wd_append, wd_take, wd_drop, List.nil_append, src_Wd' (P := Tryz.prog) elT108]; first | rfl | exact ⟨rfl, rfl⟩ | exact ⟨rfl, rfl, rfl⟩) (by simp) (by simp) ?_
  simp only [puts_some, hdrop]
  refine .e ?_
  refine hK5 _ ?_
  refine .ret ?_
  exact hK _ _ _ _ _ trivial (Fin.mk (r := .osl (nx + 1) 0 l.length) (by simp [aRes, aResL, aRes1])) (Or.inr ⟨rfl, by simp, rfl⟩)
set_option maxHeartbeats 1000000 in
theorem wide_fc {k : Nat} {z : Int} (hz : Bg k z) (hk : k ≤ 274877906944) : FC Tryz.prog 212 [numI z] (.tup [wdT z, .bool (fits z)]) := by
 refine .b Tryz.func212 50 (fun nx K hK => ?_) (hr := by simp [idfL, idf, idf_wdT])
 refine .q ?_
 refine .q ?_
 refine .sq fun K3 hK3 => ?_
 have J3 : ∀ s : St, (s.env 1 = .ptr nx 0 0 ∧ s.env 2 = .ptr (nx + 1) 0 0 ∧ s.env 4 = .ptr (nx + 1 + 1) 0 0 ∧ s.heap = hupd (hupd (hupd (fun _ => none) nx (some (2, [[.bool (decide (z < 0)), Wd .u64 (mag z)]]))) (nx + 1) (some (4, [[.int .u64 0, .int .u64 0, .int .u64 0, .int .u64 0]]))) (nx + 1 + 1) (some (2, [[.bool (decide ((if z < 0 then z + 1 else z) < 0)), Wd .u64 (mag (if z < 0 then z + 1 else z))]])) ∧ nx + 1 + 1 < s.nx ∧ s.nt = 50) → K3 s := by
  rintro ⟨e, H, m, nt⟩ ⟨h1, h2, h4, rfl, hm, rfl⟩
  simp only [] at h1 h2 h4 hm
  have hn : Bg (max k 1 + 1) (if z < 0 then z + 1 else z) := by
    split
    · exact hz.add (Bg.i64 (by omega) (by omega))
    · exact hz.le (by omega)
  have hfit := fits_iff (z := z)
  have hneg : z < 0 → ((if z < 0 then z + 1 else z).natAbs : Int) = -z - 1 := by intro h; rw [if_pos h]; omega
  have hpos : ¬ z < 0 → ((if z < 0 then z + 1 else z).natAbs : Int) = z := by intro h; rw [if_neg h]; omega
  generalize (if z < 0 then z + 1 else z) = n at *
  refine hK3 _ ?_
  refine .sq fun K4 hK4 => ?_
  refine .sq fun K5 hK5 => ?_
  refine .region ?_
  refine .kf 1 (size_fc hn (by omega)) hb164 ?_ (by simp (disch := first|omega|(simp only[ln];omega)) [List.take_succ_cons, List.take_zero, h4]; rfl) (ha := by simp (disch := first|omega|(simp only[ln];omega)) [idf_Wd', h4])
  refine .e ?_ (by simp (disch := first|omega|(simp only[ln];omega)) [h4]; rfl)
  refine hK5 _ ?_
  refine .c (fun h15 => ?_) (fun h15 => ?_)
  ·try simp only[dc]at h15
   have hf : fits z = false := by
     cases h : fits z with
     | false => rfl
     | true => have := hfit.mpr h; omega
   refine .q ?_ (by simp (disch := first|omega|(simp only[ln];omega)) [h2]; rfl)
   refine .ret ?_
   exact hK _ _ _ _ trivial ((Fin.mk (by simp (disch := omega) [aRes, aResL, aRes1, h2]; rfl)).cast (by simp [wdT, hf, wdI]))
  ·try simp only[dc]at h15
   have hf : fits z = true := hfit.mp (by omega)
   have hl4 : (mag n).length ≤ 4 := Bg.len (k := 4) (by
     have := bitLen_le.mp (hfit.mpr hf)
     exact Nat.lt_of_lt_of_le this (by decide))
   refine .skip ?_
   refine hK4 _ ?_
   refine .sq fun K7 hK7 => ?_
   have J7 : ∀ s : St, (∃ id, s.env 1 = .ptr nx 0 0 ∧ s.env 2 = .ptr (nx + 1) 0 0 ∧ s.env 5 = .osl id 0 ((mag n).length + 4) ∧ s.heap nx = some (2, [[.bool (decide (z < 0)), Wd .u64 (mag z)]]) ∧ s.heap (nx + 1) = some (4, [[.int .u64 0, .int .u64 0, .int .u64 0, .int .u64 0]]) ∧ s.heap id = some (1, wd .u64 (mag n ++ [0, 0, 0, 0])) ∧ nx + 1 < id ∧ s.nt = 50) → K7 s := by
    clear h1 h2 h4
    rintro ⟨e, H, m2, nt⟩ ⟨id, h1, h2, h5, hA, hB, hC, hid, rfl⟩
    simp only [] at h1 h2 h5 hA hB hC
    refine hK7 _ ?_
    refine .sq fun K8 hK8 => ?_
    refine .q ?_ (by simp (disch := first|omega|(simp only[ln];omega)) [h1, hA]; rfl)
    refine .c (fun h22 => ?_) (fun h22 => ?_)
    ·try simp only[dc]at h22
     have hzn : z < 0 := by simpa using h22
     refine .q ?_ (by simp (disch := first|omega|(simp only[ln];omega)) [len_Wd (P := Tryz.prog) #[108] rfl elT108, h5, hC]; rfl)
     refine .block ?_
     refine .loop (fun n' s => ∃ i out, n' = (mag n).length + 4 - i ∧ i ≤ (mag n).length + 4 ∧ out.length = (mag n).length + 4 ∧ (∀ j, j < (mag n).length + 4 → gt out j = if j < i then 18446744073709551615 - gt (mag n ++ [0, 0, 0, 0]) j else gt (mag n ++ [0, 0, 0, 0]) j) ∧ s.env 2 = .ptr (nx + 1) 0 0 ∧ s.env 5 = .osl id 0 ((mag n).length + 4) ∧ s.env 24 = .int .i64 ((mag n).length + 4 : Nat) ∧ s.env 25 = .int .i64 (i : Int) ∧ s.heap (nx + 1) = some (4, [[.int .u64 0, .int .u64 0, .int .u64 0, .int .u64 0]]) ∧ s.heap id = some (1, wd .u64 out) ∧ s.nt = 50) ((mag n).length + 4) (⟨0, mag n ++ [0, 0, 0, 0], by omega, by omega, by simp, by intro j hj; simp, by simp [h2], by simp [h5], by simp, by simp, by simp [hB], by simp [hC], rfl⟩) ?_
     clear h1 h2 h5 hA hB hC
     rintro n' ⟨e, H, m3, nt⟩ ⟨i, out, rfl, hi, ho, hg, h2, h5, h24, h25, hB, hC, rfl⟩
     simp only [] at h2 h5 h24 h25 hB hC
     refine .q ?_ (by simp (disch := first|omega|(simp only[ln];omega)) [h24, h25]; rfl)
     refine .sq fun K12 hK12 => ?_
     refine .c (fun h26 => ?_) (fun h26 => ?_)
     ·try simp only[dc]at h26
      have hi' : i < (mag n).length + 4 := by omega
      have hgi : 0 ≤ gt out i ∧ gt out i < 18446744073709551616 := by
        have := hg i hi'
        rw [if_neg (Nat.lt_irrefl i)] at this
        rw [this]; exact (Dig.append (mag_dig n) (dig4 (by unfold U64; omega) (by unfold U64; omega) (by unfold U64; omega) (by unfold U64; omega))).gt (by omega) i
      have hx := not_u64 hgi.1 hgi.2
      refine .skip ?_
      refine hK12 _ ?_
      refine .sq fun K13 hK13 => ?_
      refine .block ?_
      refine .q ?_ (by simp (disch := first|omega|(simp only[ln];omega)) [h25]; rfl)
      refine .r ?_ (by simp (disch := first|omega|(simp only[ln];omega)) [idx_WdD (P := Tryz.prog) elT108 szT25, if_pos, h5, hC, ho, hx, ld_ip agT25]; rfl)
      refine hK13 _ ?_
      refine .r ?_ (by simp (disch := first|omega|(simp only[ln];omega)) [h25]; rfl)
      refine ⟨(mag n).length + 4 - (i + 1), by omega, i + 1, out.set i (18446744073709551615 - gt out i), rfl, by omega, by simp [ho], ?_, by simp [h2], by simp [h5], by simp [h24], by simp (disch := omega) [h25], by simp (disch := omega) [hB], by simp, rfl⟩
      intro j hj
      by_cases hji : j = i
      · subst hji; rw [gt_set (by omega), hg _ hj]; simp
      · rw [gt_set_ne (Ne.symm hji), hg _ hj]
        by_cases hlt : j < i
        · rw [if_pos hlt, if_pos (by omega)]
        · rw [if_neg hlt, if_neg (by omega)]
     ·try simp only[dc]at h26
      obtain rfl : i = (mag n).length + 4 := by omega
      refine .exit ?_
      refine hK8 _ ?_
      refine .sq fun K15 hK15 => ?_
      refine .df 13 ?_ (by simp (disch := first|omega|(simp only[ln];omega)) [runDf.eq_def, runF1, runF2, stepF.eq_def, updo.eq_def, hupo.eq_def, opSto1.eq_def, idx_WdD (P := Tryz.prog) elT108 szT25, if_pos, h2, h5, hB, hC, ho, ld_ip agT25]; rfl)
      refine hK15 _ ?_
      refine .ret ?_
      exact hK _ _ _ _ trivial ((Fin.mk (by simp (disch := omega) [aRes, aResL, aRes1, h2]; rfl)).cast (by have hw := words4 (mag_dig n) hl4; rw [mag_val, hneg hzn] at hw; simp only [wdT, hf, if_true]; rw [wdZ_neg hw.2.2.2.2 hw.2.2.2.1 hw.2.2.1 hw.2.1 hw.1]; rw [hg 0 (by omega), hg 1 (by omega), hg 2 (by omega), hg 3 (by omega)]; simp [wdI, gt_app0]))
    ·try simp only[dc]at h22
     have hzn : ¬ z < 0 := by simpa using h22
     refine .skip ?_
     refine hK8 _ ?_
     refine .sq fun K16 hK16 => ?_
     refine .df 13 ?_ (by simp (disch := first|omega|(simp only[ln];omega)) [runDf.eq_def, runF1, runF2, stepF.eq_def, updo.eq_def, hupo.eq_def, opSto1.eq_def, idx_WdD (P := Tryz.prog) elT108 szT25, if_pos, h2, h5, hB, hC, ld_ip agT25]; rfl)
     refine hK16 _ ?_
     refine .ret ?_
     exact hK _ _ _ _ trivial ((Fin.mk (by simp (disch := omega) [aRes, aResL, aRes1, h2]; rfl)).cast (by have hw := words4 (mag_dig n) hl4; rw [mag_val, hpos hzn] at hw; simp only [wdT, hf, if_true]; rw [wdZ_pos hw.2.2.2.2 hw.2.2.2.1 hw.2.2.1 hw.2.1 (by omega) hw.1]; simp [wdI, gt_app0]))
   refine AWP.region ?_
   refine AOPS.runk 2 (by simp (disch := first|omega|(simp only[ln];omega)) [List.take_succ_cons, List.take_zero, h1, h4]; rfl) ?_
   simp only [List.drop_succ_cons, List.drop_zero]
   refine AOPS.acall (clone_ac (mag n) (by omega) _ _) rfl rfl rfl hb239 (by simp) (by simp) (by simp) ?_
   rintro r H' nx' (⟨he, rfl, rfl, rfl⟩ | ⟨rfl, rfl, rfl⟩)
   · simp only [puts_some]
     refine AOPS.opapp (d := none) (z := 1) (es := wd .u64 [0, 0, 0, 0]) (by simp (disch := first|omega|(simp only[ln];omega)) [opApp.eq_def, aSrc_isl, aSrc_osl, aSrc_nsl, aSrc_int, wd_app, wd_app2, if_pos, wd_append, wd_take, wd_drop, List.nil_append, h1, h4]; try first | rfl | exact ⟨rfl, rfl, rfl⟩ | exact fun h => absurd (congrArg List.length h) (by rw [wd_len]; decide)) (by simp) (by simp) ?_
     simp only [puts_some, hdrop]
     refine AOPS.all (by simp (disch := first|omega|(simp only[ln];omega)) [List.take_succ_cons, List.take_zero, h1, h4]; rfl) ?_
     refine J7 _ ⟨_, by simp [h1], by simp [h2], by simp [he, wd_len]; rfl, by simp (disch := omega), by simp (disch := omega), by simp [he], by omega, rfl⟩
   · simp only [puts_some]
     refine AOPS.opapp (d := some (m + 1)) (z := 1) (es := wd .u64 (mag n ++ [0, 0, 0, 0])) (by simp (disch := first|omega|(simp only[ln];omega)) [opApp.eq_def, aSrc_isl, aSrc_osl, aSrc_nsl, aSrc_int, wd_app, wd_app2, if_pos, wd_append, wd_take, wd_drop, List.nil_append, h1, h4]; try first | rfl | exact ⟨rfl, rfl, rfl⟩ | exact fun h => absurd (congrArg List.length h) (by rw [wd_len]; decide)) (by simp) (by simp) ?_
     simp only [puts_some, hdrop]
     refine AOPS.all (by simp (disch := first|omega|(simp only[ln];omega)) [List.take_succ_cons, List.take_zero, h1, h4]; rfl) ?_
     refine J7 _ ⟨_, by simp [h1], by simp [h2], by simp [wd_len]; rfl, by simp (disch := omega), by simp (disch := omega), by simp, by omega, rfl⟩
 refine .q ?_
 refine .c (fun h9 => ?_) (fun h9 => ?_)
 ·try simp only[dc]at h9
  refine .d 3 ?_
  refine .k 1 (fun fs18 hfs18 => ?_)
  refine .f (whole_fc 1 (by omega) (by omega)) hb79 ?_
  refine .f (plus_fc (a := z) (b := 1) hz (Bg.i64 (by omega) (by omega)) hk (by omega)) hb83 ?_
  refine .r 3 (by simp only[ln, hfs18];omega) ?_
  refine J3 _ ?_
  exact ⟨by simp, by simp, by simp, by simp [h9], by simp, rfl⟩
 ·try simp only[dc]at h9
  refine .skip ?_
  refine J3 _ ?_
  exact ⟨by simp, by simp, by simp, by simp [h9], by simp, rfl⟩
end
section
attribute [local simp] idf_numI cells_numI numI_fold idf_wdZ cells_wdZ wdC_len wdC_all wdC_agg wdC_one wdC_take
theorem wideOf_fc (n : Int) (h1 : -9223372036854775808 ≤ n) (h2 : n ≤ 9223372036854775807) : FC Tryz.prog 139 [.int .i64 n] (wdZ n) := by
 have hf : fits n = true := by unfold fits; simp; omega
 have ht : wdT n = wdZ n := by simp [wdT, hf]
 refine .b Tryz.func139 12 (fun nx K hK => ?_) (hr := by simp [idfL, idf, idf_wdZ])
 refine .q ?_
 refine .sq fun K2 hK2 => ?_
 refine .region ?_
 refine .kf 1 (whole_fc n h1 h2) hb79 ?_ (by simp (disch := first|omega|(simp only[ln];omega)) [List.take_succ_cons, List.take_zero, ht, hf]; rfl) (ha := by simp (disch := first|omega|(simp only[ln];omega)) [idf_Wd', ht, hf])
 refine .f (wide_fc (z := n) (Bg.i64 h1 h2) (by omega)) hb212 ?_ (ha := by simp (disch := first|omega|(simp only[ln];omega)) [idf_Wd', ht, hf])
 refine .e ?_ (by simp (disch := first|omega|(simp only[ln];omega)) [ht, hf]; rfl)
 refine hK2 _ ?_
 refine .q ?_
 refine .ret ?_
 exact hK _ _ _ _ trivial (Fin.mk (r := wdZ n) (by simp [aRes, aResL, aRes1]))
end

end Go.Proofs.YtaibemhdfhchfaaGreat

/- Walks: the reference's numbers. -/
namespace Go.Proofs.YtaibemhdfhchfaaGreat
open Go Go.RowKit
set_option linter.unusedSimpArgs false
set_option linter.unusedVariables false
set_option maxRecDepth 100000
attribute [local simp] szT3 byT3 agT3 unT3 zoT3 szT4 byT4 agT4 unT4 zoT4 szT125 byT125 agT125 elT125 unT125 zoT125 szT127 byT127 agT127 flT127 fdT127_0 fdT127_1 zoT127 szT271 byT271 agT271 unT271 zoT271

section
attribute [local simp] idf_numS cells_numS numS_fold
theorem l1Trim_fc (b : Bool) (l : List Int) (hl : l.length ≤ 1099511627776) (hd : Dig 4294967296 l) : FC Tryz.prog 235 [.bool b, Wd .u32 l] (numS (sg b (val 4294967296 l))) := by
 refine .b Tryz.func235 28 (fun nx K hK => ?_)
 refine .q ?_
 refine .q ?_ (by simp (disch := first|omega|(simp only[ln];omega)) [len_Wd (P := Tryz.prog) #[125] rfl elT125]; rfl)
 refine .sq fun K3 hK3 => ?_
 refine .block ?_
 refine .loop (fun n s => n ≤ l.length ∧ trimW (l.take n) = trimW l ∧ s.env 0 = .bool b ∧ s.env 1 = Wd .u32 l ∧ s.env 4 = .ptr nx 0 0 ∧ s.env 5 = .int .i64 (n : Int) ∧ s.heap = hupd (fun _ => none) nx (some (2, [[.bool false, .nsl]])) ∧ s.nt = 28) (l.length) (⟨Nat.le_refl _, by rw [List.take_length], by simp, by simp, by simp, by simp, by simp, rfl⟩) ?_
 rintro n ⟨e, H, m, nt⟩ ⟨hn, ht, h0, h1, h4, h5, rfl, rfl⟩
 simp only [] at h0 h1 h4 h5
 refine .sq fun K4 hK4 => ?_
 refine .sq fun K5 hK5 => ?_
 cases n with
 | zero => ?_
 | succ p => ?_
 ·refine .r ?_ (by simp (disch := first|omega|(simp only[ln];omega)) [idx_WdD (P := Tryz.prog) elT125 szT271, if_pos, h1, h5]; rfl)
  refine hK5 _ ?_
  refine .c (fun h17 => ?_) (fun h17 => ?_)
  ·simp at h17
  ·try simp only[dc]at h17
   refine .exit ?_
   refine hK3 _ ?_
   refine .sq fun K6 hK6 => ?_
   refine .q ?_ (by simp (disch := first|omega|(simp only[ln];omega)) [h5]; rfl)
   refine .c (fun h21 => ?_) (fun h21 => ?_)
   ·try simp only[dc]at h21
    refine .q ?_ (by simp (disch := first|omega|(simp only[ln];omega)) [h4]; rfl)
    refine .ret ?_
    exact hK _ _ _ _ trivial ((Fin.mk (r := .agg [.bool false, .nsl]) (by simp [aRes, aResL, aRes1, h4])).weak (by
      have e : val 4294967296 l = 0 := by rw [← trimW_val, ← ht]; rfl
      rw [e, sg_zero]; exact fun _ _ _ _ => nS0_weak))
   ·simp at h21
 ·replace h5 : e 5 = .int .i64 ((p : Int) + 1) := by simpa using h5
  refine .r ?_ (by simp (disch := first|omega|(simp only[ln];omega)) [idx_WdD (P := Tryz.prog) elT125 szT271, if_pos, h1, h5, ld_ip agT271]; rfl)
  refine hK5 _ ?_
  refine .c (fun h17 => ?_) (fun h17 => ?_)
  ·try simp only[dc]at h17
   have hx : gt l p = 0 := by simpa using h17
   refine .skip ?_
   refine hK4 _ ?_
   refine .block ?_
   refine .r ?_ (by simp (disch := first|omega|(simp only[ln];omega)) [h5]; rfl)
   exact ⟨p, by omega, by omega, by rw [← ht, take_succ_gt (by omega), hx, trimW_concat_zero], by simp [h0], by simp [h1], by simp [h4], by simp (disch := omega), rfl, rfl⟩
  ·try simp only[dc]at h17
   have hx : gt l p ≠ 0 := by simpa using h17
   refine .exit ?_
   refine hK3 _ ?_
   refine .sq fun K9 hK9 => ?_
   refine .q ?_ (by simp (disch := first|omega|(simp only[ln];omega)) [h5]; rfl)
   refine .c (fun h21 => ?_) (fun h21 => ?_)
   ·simp at h21; omega
   ·try simp only[dc]at h21
    refine .skip ?_
    refine hK9 _ ?_
    refine .q ?_ (by simp (disch := first|omega|(simp only[ln];omega)) [if_pos, h0, h1, h4, h5, slc_Wd (P := Tryz.prog) (k := .u32) (l := l) (lo := none) (hi := some (.int .i64 ((p : Int) + 1))) (a := 0) (b := p + 1) elT125 szT271 rfl (by simp [bnd]; omega) (Nat.zero_le _) (by omega)]; rfl)
    refine .ret ?_
    exact hK _ _ _ _ trivial ((Fin.mk (r := .agg [.bool b, Wd .u32 (l.take (p + 1))]) (by simp [aRes, aResL, aRes1, h4])).cast (by
      have e : trimW l = l.take (p + 1) := by rw [← ht, take_succ_gt (by omega), trimW_concat_pos _ _ hx]
      rw [← e]; exact numS_mk hd (by rw [e, take_succ_gt (by omega)]; simp)))
end
theorem l1CmpAbs_fc (a b : List Int) (ha : a.length ≤ 1099511627776) (hb : b.length ≤ 1099511627776) : FC Tryz.prog 250 [Wd .u32 a, Wd .u32 b] (.int .i64 (cmpS a b)) := by
 refine .b Tryz.func250 41 (fun nx K hK => ?_)
 refine .q ?_
 refine .sq fun K2 hK2 => ?_
 refine .q ?_ (by simp (disch := first|omega|(simp only[ln];omega)) [len_Wd (P := Tryz.prog) #[125] rfl elT125]; rfl)
 refine .c (fun h10 => ?_) (fun h10 => ?_)
 ·try simp only[dc]at h10
  have hne : a.length ≠ b.length := by simp at h10; omega
  refine .sq fun K4 hK4 => ?_
  refine .q ?_ (by simp (disch := first|omega|(simp only[ln];omega)) [len_Wd (P := Tryz.prog) #[125] rfl elT125]; rfl)
  refine .c (fun h15 => ?_) (fun h15 => ?_)
  ·try simp only[dc]at h15
   refine .q ?_
   refine .ret ?_
   exact hK _ _ _ _ trivial (Fin.mk (by simp (disch := omega) [aRes, aResL, aRes1, cmpS, hne]; omega))
  ·try simp only[dc]at h15
   refine .skip ?_
   refine hK4 _ ?_
   refine .q ?_
   refine .ret ?_
   exact hK _ _ _ _ trivial (Fin.mk (by simp (disch := omega) [aRes, aResL, aRes1, cmpS, hne]; omega))
 ·try simp only[dc]at h10
  have hne : a.length = b.length := by simp at h10; omega
  refine .skip ?_
  refine hK2 _ ?_
  refine .sq fun K8 hK8 => ?_
  refine .q ?_ (by simp (disch := first|omega|(simp only[ln];omega)) [len_Wd (P := Tryz.prog) #[125] rfl elT125]; rfl)
  refine .block ?_
  refine .loop (fun n s => n ≤ a.length ∧ cmpAt a b n = cmpAt a b a.length ∧ s.env 0 = Wd .u32 a ∧ s.env 1 = Wd .u32 b ∧ s.env 5 = .int .i64 ((n : Int) - 1) ∧ s.heap = (fun _ => none) ∧ s.nt = 41) (a.length) (⟨Nat.le_refl _, rfl, by simp, by simp, by simp (disch := omega), rfl, rfl⟩) ?_
  rintro n ⟨e, H, nx, nt⟩ ⟨hlen, ht, h0, h1, h5, rfl, rfl⟩
  simp only [] at h0 h1 h5
  refine .sq fun K10 hK10 => ?_
  refine .q ?_ (by simp (disch := first|omega|(simp only[ln];omega)) [h5]; rfl)
  refine .c (fun h20 => ?_) (fun h20 => ?_)
  ·try simp only[dc]at h20
   obtain ⟨m, rfl⟩ : ∃ m, n = m + 1 := ⟨n - 1, by omega⟩
   replace h5 : e 5 = .int .i64 (m : Int) := by simpa using h5
   refine .skip ?_
   refine hK10 _ ?_
   refine .sq fun K12 hK12 => ?_
   refine .block ?_
   refine .sq fun K13 hK13 => ?_
   refine .sq fun K14 hK14 => ?_
   refine .df 9 ?_ (by simp (disch := first|omega|(simp only[ln];omega)) [runDf.eq_def, runF1, runF2, stepF.eq_def, updo.eq_def, hupo.eq_def, opSto1.eq_def, idx_WdD (P := Tryz.prog) elT125 szT271, if_pos, h0, h1, h5, ld_ip agT271]; rfl)
   refine hK14 _ ?_
   refine .c (fun h31 => ?_) (fun h31 => ?_)
   ·try simp only[dc]at h31
    refine .q ?_
    refine .ret ?_
    exact hK _ _ _ _ trivial (Fin.mk (by simp [aRes, aResL, aRes1, cmpS, hne]; rw [← hne, ← ht, cmpAt, if_neg (by omega), if_pos h31]))
   ·try simp only[dc]at h31
    refine .skip ?_
    refine hK13 _ ?_
    refine .sq fun K16 hK16 => ?_
    refine .df 9 ?_ (by simp (disch := first|omega|(simp only[ln];omega)) [runDf.eq_def, runF1, runF2, stepF.eq_def, updo.eq_def, hupo.eq_def, opSto1.eq_def, idx_WdD (P := Tryz.prog) elT125 szT271, if_pos, h0, h1, h5, ld_ip agT271]; rfl)
    refine hK16 _ ?_
    refine .c (fun h40 => ?_) (fun h40 => ?_)
    ·try simp only[dc]at h40
     refine .q ?_
     refine .ret ?_
     exact hK _ _ _ _ trivial (Fin.mk (by simp [aRes, aResL, aRes1, cmpS, hne]; rw [← hne, ← ht, cmpAt, if_neg (by omega), if_neg (by omega)]))
    ·try simp only[dc]at h40
     have hx : gt a m = gt b m := by omega
     refine .skip ?_
     refine hK12 _ ?_
     refine .r ?_ (by simp (disch := first|omega|(simp only[ln];omega)) [h5]; rfl)
     exact ⟨m, by omega, by omega, by rw [← ht, cmpAt, if_pos hx], by simp [h0], by simp [h1], by simp (disch := omega), rfl, rfl⟩
  ·try simp only[dc]at h20
   obtain rfl : n = 0 := by omega
   refine .exit ?_
   refine hK8 _ ?_
   refine .q ?_
   refine .ret ?_
   exact hK _ _ _ _ trivial (Fin.mk (by simp [aRes, aResL, aRes1, cmpS, hne]; rw [← hne, ← ht, cmpAt]))

end Go.Proofs.YtaibemhdfhchfaaGreat

/- Walks: the reference's sums. -/
namespace Go.Proofs.YtaibemhdfhchfaaGreat
open Go Go.RowKit
set_option linter.unusedSimpArgs false
set_option linter.unusedVariables false
set_option maxRecDepth 100000
attribute [local simp] szT3 byT3 agT3 unT3 zoT3 szT25 byT25 agT25 unT25 zoT25 szT125 byT125 agT125 elT125 unT125 zoT125 szT271 byT271 agT271 unT271 zoT271

set_option maxHeartbeats 1000000 in
theorem l1AddAbs_fc (a b : List Int) (ha : a.length ≤ 549755813888) (hb : b.length ≤ 549755813888) (da : Dig 4294967296 a) (db : Dig 4294967296 b) : FC Tryz.prog 249 [Wd .u32 a, Wd .u32 b] (Wd .u32 (addS a b)) := by
 refine .b Tryz.func249 58 (fun nx K hK => ?_)
 refine .q ?_
 refine .sq fun K2 hK2 => ?_
 have J2 : ∀ s : St, (∃ a' b', s.env 0 = Wd .u32 a' ∧ s.env 1 = Wd .u32 b' ∧ a'.length ≤ 549755813888 ∧ b'.length ≤ a'.length ∧ Dig 4294967296 a' ∧ Dig 4294967296 b' ∧ addS a b = addO a' b' ∧ s.heap = (fun _ => none) ∧ s.nt = 58) → K2 s := by
  rintro ⟨e, H, nx, nt⟩ ⟨a', b', h0, h1, hlen, hle, da', db', hv, rfl, rfl⟩
  simp only [] at h0 h1
  refine hK2 _ ?_
  refine .sq fun K3 hK3 => ?_
  refine AWP.region ?_
  refine AOPS.runk 3 (by simp (disch := first|omega|(simp only[ln];omega)) [List.take_succ_cons, List.take_zero, if_pos, len_Wd (P := Tryz.prog) #[125] rfl elT125, h0, h1]; rfl) ?_
  simp only [List.drop_succ_cons, List.drop_zero]
  refine AOPS.opnew (.osl nx 0 0) 1 [] (by simp [opNew, elT125, szT271, byT271, zoT271, ev, cv, h0, h1]; omega) (by simp) (by simp) ?_
  simp only [puts_some]
  refine AOPS.all (by simp (disch := first|omega|(simp only[ln];omega)) [List.take_succ_cons, List.take_zero, if_pos, len_Wd (P := Tryz.prog) #[125] rfl elT125, h0, h1]; rfl) ?_
  refine hK3 _ ?_
  refine .q ?_
  refine .sq fun K5 hK5 => ?_
  refine .q ?_
  refine .block ?_
  refine .loop (fun n s => ∃ i id, n = a'.length - i ∧ i ≤ a'.length ∧ s.env 0 = Wd .u32 a' ∧ s.env 1 = Wd .u32 b' ∧ s.env 5 = .osl id 0 i ∧ s.env 6 = .int .u64 (addR a' b' i).2 ∧ s.env 7 = .int .i64 (i : Int) ∧ s.heap id = some (1, wd .u32 (addR a' b' i).1) ∧ id < s.nx ∧ s.nt = 58) (a'.length) (⟨0, nx, by omega, by omega, by simp [h0], by simp [h1], by simp, by simp [addR], by simp, by simp [addR, wd], by simp, rfl⟩) ?_
  rintro n ⟨e, H, m, nt⟩ ⟨i, id, rfl, hi, h0, h1, h5, h6, h7, hH, hid, rfl⟩
  simp only [] at h0 h1 h5 h6 h7 hH hid
  obtain ⟨r1, r2, r3, r4, r5⟩ := addR_spec da' db' i
  have ht : List.take i (addR a' b' i).1 = (addR a' b' i).1 := List.take_of_length_le (by omega)
  refine .sq fun K7 hK7 => ?_
  refine .q ?_ (by simp (disch := first|omega|(simp only[ln];omega)) [len_Wd (P := Tryz.prog) #[125] rfl elT125, h0, h7]; rfl)
  refine .c (fun h22 => ?_) (fun h22 => ?_)
  ·try simp only[dc]at h22
   have hi' : i < a'.length := by omega
   have ga := da'.gt (by omega) i
   have gb := db'.gt (by omega) i
   refine .skip ?_
   refine hK7 _ ?_
   refine .sq fun K9 hK9 => ?_
   refine .block ?_
   refine .q ?_ (by simp (disch := first|omega|(simp only[ln];omega)) [idx_WdD (P := Tryz.prog) elT125 szT271, if_pos, h0, h6, h7, ld_ip agT271]; rfl)
   refine .sq fun K11 hK11 => ?_
   have J11 : ∀ s : St, (s.env 0 = Wd .u32 a' ∧ s.env 1 = Wd .u32 b' ∧ s.env 5 = .osl id 0 i ∧ s.env 6 = .int .u64 ((addR a' b' i).2 + gt a' i + gt b' i) ∧ s.env 7 = .int .i64 (i : Int) ∧ s.heap id = some (1, wd .u32 (addR a' b' i).1) ∧ id < s.nx ∧ s.nt = 58) → K11 s := by
    clear h0 h1 h5 h6 h7 hH hid
    rintro ⟨e, H, m, nt⟩ ⟨h0, h1, h5, h6, h7, hH, hid, rfl⟩
    simp only [] at h0 h1 h5 h6 h7 hH hid
    refine hK11 _ ?_
    refine .sq fun K12 hK12 => ?_
    have J12 : ∀ s : St, (∃ id2, s.env 0 = Wd .u32 a' ∧ s.env 1 = Wd .u32 b' ∧ s.env 5 = .osl id2 0 (i + 1) ∧ s.env 6 = .int .u64 ((addR a' b' i).2 + gt a' i + gt b' i) ∧ s.env 7 = .int .i64 (i : Int) ∧ s.heap id2 = some (1, wd .u32 (addR a' b' (i + 1)).1) ∧ id2 < s.nx ∧ s.nt = 58) → K12 s := by
     clear h0 h1 h5 h6 h7 hH hid
     rintro ⟨e, H, m, nt⟩ ⟨id2, h0, h1, h5, h6, h7, hH, hid, rfl⟩
     simp only [] at h0 h1 h5 h6 h7 hH hid
     refine hK12 _ ?_
     refine .r ?_ (by simp (disch := first|omega|(simp only[ln];omega)) [h6]; rfl)
     refine hK9 _ ?_
     refine .r ?_ (by simp (disch := first|omega|(simp only[ln];omega)) [h7]; rfl)
     refine ⟨a'.length - (i + 1), by omega, i + 1, id2, rfl, by omega, by simp [h0], by simp [h1], by simp [h5], by simp (disch := omega) [addR, wrap_u64m, IntKind.bits, Int.fdiv_eq_ediv_of_nonneg], by simp (disch := omega) [h7], by simp [hH], by simpa using hid, rfl⟩
    refine .region ?_
    refine .k 4 ?_ (by simp (disch := first|omega|(simp only[ln];omega)) [List.take_succ_cons, List.take_zero, h5, h6, hH, r1, Nat.ne_of_lt hid]; rfl)
    refine AOPS.opapp (by simp (disch := first|omega|(simp only[ln];omega)) [opApp.eq_def, aSrc_isl, aSrc_osl, aSrc_nsl, aSrc_int, wd_app, wd_app2, if_pos, wd_append, wd_take, wd_drop, List.nil_append, h5, h6, hH, r1, Nat.ne_of_lt hid, src_Wd' (P := Tryz.prog) elT125]; first | rfl | exact ⟨rfl, rfl⟩ | exact ⟨rfl, rfl, rfl⟩) (by simp) (by simp) ?_
    simp only [puts_some, hdrop]
    refine .e ?_ (by simp (disch := first|omega|(simp only[ln];omega)) [h5, h6, hH, r1, Nat.ne_of_lt hid]; rfl)
    refine J12 _ ?_
    exact ⟨_, by simp [h0], by simp [h1], by simp [r1]; rfl, by simp [h6], by simp [h7], by simp [addR, wrap_u32m, ht], by simp, rfl⟩
   refine .q ?_ (by simp (disch := first|omega|(simp only[ln];omega)) [len_Wd (P := Tryz.prog) #[125] rfl elT125, h1, h7]; rfl)
   refine .c (fun h35 => ?_) (fun h35 => ?_)
   ·try simp only[dc]at h35
    have hib : i < b'.length := by omega
    refine .r ?_ (by simp (disch := first|omega|(simp only[ln];omega)) [idx_WdD (P := Tryz.prog) elT125 szT271, if_pos, h1, h7, ld_ip agT271]; rfl)
    refine J11 _ ?_
    exact ⟨by simp [h0], by simp [h1], by simp [h5], by simp, by simp [h7], by simp [hH], by simpa using hid, rfl⟩
   ·try simp only[dc]at h35
    refine .skip ?_
    refine J11 _ ?_
    exact ⟨by simp [h0], by simp [h1], by simp [h5], by simp [gt_ge (show b'.length ≤ i by omega)], by simp [h7], by simp [hH], by simpa using hid, rfl⟩
  ·try simp only[dc]at h22
   obtain rfl : i = a'.length := by omega
   refine .exit ?_
   refine hK5 _ ?_
   refine .sq fun K14 hK14 => ?_
   refine .q ?_ (by simp (disch := first|omega|(simp only[ln];omega)) [h6]; rfl)
   refine .c (fun h51 => ?_) (fun h51 => ?_)
   ·try simp only[dc]at h51
    have hc : 0 < (addR a' b' a'.length).2 := by omega
    have hm2 : (addR a' b' a'.length).2 % 4294967296 = (addR a' b' a'.length).2 := Int.emod_eq_of_lt r3 (by omega)
    refine .region ?_
    refine .k 4 ?_ (by simp (disch := first|omega|(simp only[ln];omega)) [List.take_succ_cons, List.take_zero, h5, h6, hH, r1, Nat.ne_of_lt hid]; rfl)
    refine AOPS.opapp (by simp (disch := first|omega|(simp only[ln];omega)) [opApp.eq_def, aSrc_isl, aSrc_osl, aSrc_nsl, aSrc_int, wd_app, wd_app2, if_pos, wd_append, wd_take, wd_drop, List.nil_append, h5, h6, hH, r1, Nat.ne_of_lt hid, src_Wd' (P := Tryz.prog) elT125]; first | rfl | exact ⟨rfl, rfl⟩ | exact ⟨rfl, rfl, rfl⟩) (by simp) (by simp) ?_
    simp only [puts_some, hdrop]
    refine .e ?_ (by simp (disch := first|omega|(simp only[ln];omega)) [h5, h6, hH, r1, Nat.ne_of_lt hid]; rfl)
    refine hK14 _ ?_
    refine .q ?_ (by simp (disch := first|omega|(simp only[ln];omega)) [h5]; rfl)
    refine .ret ?_
    exact hK _ _ _ _ trivial (((Fin.mk (r := .osl (m + 1) 0 (a'.length + 1)) (by simp (disch := omega) [aRes, aResL, aRes1, r1])).freeze (id := m + 1) (z := 1) (es := wd .u32 (addO a' b')) (by simp [addO, hc, wrap_u32m, ht, hm2])).cast (by rw [hv]; exact fz_wd (by simp [addO, hc, r1])))
   ·try simp only[dc]at h51
    have hc : ¬ 0 < (addR a' b' a'.length).2 := by omega
    refine .skip ?_
    refine hK14 _ ?_
    refine .q ?_ (by simp (disch := first|omega|(simp only[ln];omega)) [h5]; rfl)
    refine .ret ?_
    exact hK _ _ _ _ trivial (((Fin.mk (r := .osl id 0 a'.length) (by simp [aRes, aResL, aRes1])).freeze (id := id) (z := 1) (es := wd .u32 (addO a' b')) (by simp [hH, addO, hc])).cast (by rw [hv]; exact fz_wd (by simp [addO, hc, r1])))
 refine .q ?_ (by simp (disch := first|omega|(simp only[ln];omega)) [len_Wd (P := Tryz.prog) #[125] rfl elT125]; rfl)
 refine .c (fun h12 => ?_) (fun h12 => ?_)
 ·try simp only[dc]at h12
  refine .r ?_
  refine J2 _ ?_
  exact ⟨b, a, by simp, by simp, hb, by omega, db, da, by rw [addS, if_pos (by omega)], rfl, rfl⟩
 ·try simp only[dc]at h12
  refine .skip ?_
  refine J2 _ ?_
  exact ⟨a, b, by simp, by simp, ha, by omega, da, db, by rw [addS, if_neg (by omega)], rfl, rfl⟩
set_option maxHeartbeats 1000000 in
theorem l1SubAbs_fc (a b : List Int) (ha : a.length ≤ 549755813888) (da : Dig 4294967296 a) (db : Dig 4294967296 b) : FC Tryz.prog 247 [Wd .u32 a, Wd .u32 b] (Wd .u32 (subS a b)) := by
 refine .b Tryz.func247 49 (fun nx K hK => ?_)
 refine .q ?_
 refine .sq fun K2 hK2 => ?_
 refine AWP.region ?_
 refine AOPS.runk 2 (by simp (disch := first|omega|(simp only[ln];omega)) [List.take_succ_cons, List.take_zero, if_pos, len_Wd (P := Tryz.prog) #[125] rfl elT125]; rfl) ?_
 simp only [List.drop_succ_cons, List.drop_zero]
 refine AOPS.opnew (.osl nx 0 0) 1 [] (by simp [opNew, elT125, szT271, byT271, zoT271, ev, cv]; omega) (by simp) (by simp) ?_
 simp only [puts_some]
 refine AOPS.all (by simp (disch := first|omega|(simp only[ln];omega)) [List.take_succ_cons, List.take_zero, if_pos, len_Wd (P := Tryz.prog) #[125] rfl elT125]; rfl) ?_
 refine hK2 _ ?_
 refine .q ?_
 refine .sq fun K4 hK4 => ?_
 refine .q ?_
 refine .block ?_
 refine .loop (fun n s => ∃ i id, n = a.length - i ∧ i ≤ a.length ∧ s.env 0 = Wd .u32 a ∧ s.env 1 = Wd .u32 b ∧ s.env 5 = .osl id 0 i ∧ s.env 6 = .int .u64 (subR a b i).2 ∧ s.env 7 = .int .i64 (i : Int) ∧ s.heap id = some (1, wd .u32 (subR a b i).1) ∧ id < s.nx ∧ s.nt = 49) (a.length) (⟨0, nx, by omega, by omega, by simp, by simp, by simp, by simp [subR], by simp, by simp [subR, wd], by simp, rfl⟩) ?_
 rintro n ⟨e, H, m, nt⟩ ⟨i, id, rfl, hi, h0, h1, h5, h6, h7, hH, hid, rfl⟩
 simp only [] at h0 h1 h5 h6 h7 hH hid
 obtain ⟨r1, r2, r3, r4, r5⟩ := subR_spec da db i
 have ht : List.take i (subR a b i).1 = (subR a b i).1 := List.take_of_length_le (by omega)
 refine .sq fun K6 hK6 => ?_
 refine .q ?_ (by simp (disch := first|omega|(simp only[ln];omega)) [len_Wd (P := Tryz.prog) #[125] rfl elT125, h0, h7]; rfl)
 refine .c (fun h16 => ?_) (fun h16 => ?_)
 ·try simp only[dc]at h16
  have hi' : i < a.length := by omega
  have ga := da.gt (by omega) i
  have gb := db.gt (by omega) i
  refine .skip ?_
  refine hK6 _ ?_
  refine .sq fun K8 hK8 => ?_
  refine .block ?_
  refine .q ?_ (by simp (disch := first|omega|(simp only[ln];omega)) [idx_WdD (P := Tryz.prog) elT125 szT271, if_pos, h0, h7, ld_ip agT271]; rfl)
  refine .q ?_ (by simp (disch := first|omega|(simp only[ln];omega)) [h6]; rfl)
  refine .sq fun K11 hK11 => ?_
  have J11 : ∀ s : St, (s.env 0 = Wd .u32 a ∧ s.env 1 = Wd .u32 b ∧ s.env 5 = .osl id 0 i ∧ s.env 8 = .int .u64 (gt a i) ∧ s.env 9 = .int .u64 ((subR a b i).2 + gt b i) ∧ s.env 7 = .int .i64 (i : Int) ∧ s.heap id = some (1, wd .u32 (subR a b i).1) ∧ id < s.nx ∧ s.nt = 49) → K11 s := by
   clear h0 h1 h5 h6 h7 hH hid
   rintro ⟨e, H, m, nt⟩ ⟨h0, h1, h5, h8, h9, h7, hH, hid, rfl⟩
   simp only [] at h0 h1 h5 h8 h9 h7 hH hid
   refine hK11 _ ?_
   refine .q ?_
   refine .sq fun K13 hK13 => ?_
   have J13 : ∀ s : St, (∃ x : Int, x = (if gt a i < (subR a b i).2 + gt b i then gt a i + 4294967296 else gt a i) ∧ s.env 0 = Wd .u32 a ∧ s.env 1 = Wd .u32 b ∧ s.env 5 = .osl id 0 i ∧ s.env 8 = .int .u64 x ∧ s.env 9 = .int .u64 ((subR a b i).2 + gt b i) ∧ s.env 6 = .int .u64 (subR a b (i + 1)).2 ∧ s.env 7 = .int .i64 (i : Int) ∧ s.heap id = some (1, wd .u32 (subR a b i).1) ∧ id < s.nx ∧ s.nt = 49) → K13 s := by
    clear h0 h1 h5 h7 h8 h9 hH hid
    rintro ⟨e, H, m, nt⟩ ⟨x, hx, h0, h1, h5, h8, h9, h6, h7, hH, hid, rfl⟩
    simp only [] at h0 h1 h5 h8 h9 h6 h7 hH hid
    have hxy : 0 ≤ x - ((subR a b i).2 + gt b i) ∧ x - ((subR a b i).2 + gt b i) < 4294967296 ∧ x - ((subR a b i).2 + gt b i) = (gt a i - ((subR a b i).2 + gt b i)) % 4294967296 := by
      rw [hx]; split <;> omega
    refine hK13 _ ?_
    refine .region ?_
    refine .k 6 ?_ (by simp (disch := first|omega|(simp only[ln];omega)) [List.take_succ_cons, List.take_zero, h5, h8, h9, hH, r1, Nat.ne_of_lt hid]; rfl)
    refine AOPS.opapp (by simp (disch := first|omega|(simp only[ln];omega)) [opApp.eq_def, aSrc_isl, aSrc_osl, aSrc_nsl, aSrc_int, wd_app, wd_app2, if_pos, wd_append, wd_take, wd_drop, List.nil_append, h5, h8, h9, hH, r1, Nat.ne_of_lt hid, src_Wd' (P := Tryz.prog) elT125]; first | rfl | exact ⟨rfl, rfl⟩ | exact ⟨rfl, rfl, rfl⟩) (by simp) (by simp) ?_
    simp only [puts_some, hdrop]
    refine .e ?_ (by simp (disch := first|omega|(simp only[ln];omega)) [h5, h8, h9, hH, r1, Nat.ne_of_lt hid]; rfl)
    refine hK8 _ ?_
    refine .r ?_ (by simp (disch := first|omega|(simp only[ln];omega)) [h7]; rfl)
    refine ⟨a.length - (i + 1), by omega, i + 1, m + 1, rfl, by omega, by simp [h0], by simp [h1], by simp [r1], by simp [h6], by simp (disch := omega) [h7], by simp [subR, ht, ← hxy.2.2], by simp, rfl⟩
   refine .q ?_ (by simp (disch := first|omega|(simp only[ln];omega)) [h8, h9]; rfl)
   refine .c (fun h38 => ?_) (fun h38 => ?_)
   ·try simp only[dc]at h38
    refine .q ?_ (by simp (disch := first|omega|(simp only[ln];omega)) [h8]; rfl)
    refine .r ?_
    refine J13 _ ?_
    exact ⟨_, (if_pos h38).symm, by simp [h0], by simp [h1], by simp [h5], by simp, by simp [h9], by simp [subR, h38], by simp [h7], by simp [hH], by simpa using hid, rfl⟩
   ·try simp only[dc]at h38
    refine .skip ?_
    refine J13 _ ?_
    exact ⟨_, (if_neg h38).symm, by simp [h0], by simp [h1], by simp [h5], by simp [h8], by simp [h9], by simp [subR, h38], by simp [h7], by simp [hH], by simpa using hid, rfl⟩
  refine .q ?_ (by simp (disch := first|omega|(simp only[ln];omega)) [len_Wd (P := Tryz.prog) #[125] rfl elT125, h1, h7]; rfl)
  refine .c (fun h28 => ?_) (fun h28 => ?_)
  ·try simp only[dc]at h28
   have hib : i < b.length := by omega
   refine .r ?_ (by simp (disch := first|omega|(simp only[ln];omega)) [idx_WdD (P := Tryz.prog) elT125 szT271, if_pos, h1, h7, ld_ip agT271]; rfl)
   refine J11 _ ?_
   exact ⟨by simp [h0], by simp [h1], by simp [h5], by simp, by simp, by simp [h7], by simp [hH], by simpa using hid, rfl⟩
  ·try simp only[dc]at h28
   refine .skip ?_
   refine J11 _ ?_
   exact ⟨by simp [h0], by simp [h1], by simp [h5], by simp, by simp [gt_ge (show b.length ≤ i by omega)], by simp [h7], by simp [hH], by simpa using hid, rfl⟩
 ·try simp only[dc]at h16
  obtain rfl : i = a.length := by omega
  refine .exit ?_
  refine hK4 _ ?_
  refine .q ?_ (by simp (disch := first|omega|(simp only[ln];omega)) [h5]; rfl)
  refine .ret ?_
  exact hK _ _ _ _ trivial (((Fin.mk (r := .osl id 0 a.length) (by simp [aRes, aResL, aRes1])).freeze (id := id) (z := 1) (es := wd .u32 (subS a b)) (by simp [hH, subS])).cast (fz_wd (by simp [subS, r1])))

end Go.Proofs.YtaibemhdfhchfaaGreat

/- Walks: the reference's sums of signed numbers. -/
namespace Go.Proofs.YtaibemhdfhchfaaGreat
open Go Go.RowKit
set_option linter.unusedSimpArgs false
set_option linter.unusedVariables false
set_option maxRecDepth 100000
attribute [local simp] szT2 byT2 agT2 unT2 zoT2 szT3 byT3 agT3 unT3 zoT3 szT4 byT4 agT4 unT4 zoT4 szT25 byT25 agT25 unT25 zoT25 szT125 byT125 agT125 elT125 unT125 zoT125 szT127 byT127 agT127 flT127 fdT127_0 fdT127_1 zoT127 szT271 byT271 agT271 unT271 zoT271

theorem addS_len {j k : Nat} {a b : Int} (ha : Bg j a) (hb : Bg k b) : (addS (dg a) (dg b)).length ≤ 2 * j + 2 * k + 1 := by
  have := (addS_spec (dg_dig a) (dg_dig b)).2.1
  have := ha.len32
  have := hb.len32
  omega
theorem dg_le {a b : Int} (h : b.natAbs ≤ a.natAbs) : (dg b).length ≤ (dg a).length := by
  rcases Nat.lt_or_ge (dg a).length (dg b).length with h1 | h1
  · have := can_len_lt (B := 4294967296) (by omega) (dg_dig a) (dg_dig b) (dg_can b) h1
    rw [dg_val, dg_val] at this; omega
  · exact h1
theorem addS_dg (a b : Int) : Dig 4294967296 (addS (dg a) (dg b)) ∧ val 4294967296 (addS (dg a) (dg b)) = (a.natAbs : Int) + b.natAbs := by
  have := addS_spec (dg_dig a) (dg_dig b)
  rw [dg_val, dg_val] at this
  exact ⟨this.1, this.2.2⟩
theorem subS_dg {a b : Int} (h : b.natAbs ≤ a.natAbs) : Dig 4294967296 (subS (dg a) (dg b)) ∧ (subS (dg a) (dg b)).length = (dg a).length ∧ val 4294967296 (subS (dg a) (dg b)) = (a.natAbs : Int) - b.natAbs := by
  have := subS_spec (dg_dig a) (dg_dig b) (dg_le h) (by rw [dg_val, dg_val]; omega)
  rw [dg_val, dg_val] at this
  exact this

section
attribute [local simp] idf_numS cells_numS numS_fold
theorem l1Sign_fc (z : Int) : FC Tryz.prog 176 [numS z] (.int .i64 (if z < 0 then -1 else if z > 0 then 1 else 0)) := by
 refine .b Tryz.func176 9 (fun nx K hK => ?_)
 refine .q ?_
 refine .sq fun K2 hK2 => ?_
 refine .q ?_ (by simp (disch := first|omega|(simp only[ln];omega)) [len_Wd (P := Tryz.prog) #[125] rfl elT125]; rfl)
 refine .c (fun h6 => ?_) (fun h6 => ?_)
 ·try simp only[dc]at h6
  have h0 : z = 0 := by simp at h6; exact dg_nil.mp h6
  refine .q ?_
  refine .ret ?_
  exact hK _ _ _ _ trivial (Fin.mk (by simp [aRes, aResL, aRes1, h0]))
 ·try simp only[dc]at h6
  have h0 : z ≠ 0 := by simp at h6; exact fun e => h6 (dg_nil.mpr e)
  refine .skip ?_
  refine hK2 _ ?_
  refine .sq fun K5 hK5 => ?_
  refine .q ?_
  refine .c (fun h8 => ?_) (fun h8 => ?_)
  ·try simp only[dc]at h8
   refine .q ?_
   refine .ret ?_
   exact hK _ _ _ _ trivial (Fin.mk (by simp [aRes, aResL, aRes1, h8]))
  ·try simp only[dc]at h8
   have h1 : z > 0 := by omega
   refine .skip ?_
   refine hK5 _ ?_
   refine .q ?_
   refine .ret ?_
   exact hK _ _ _ _ trivial (Fin.mk (by simp [aRes, aResL, aRes1, h8, h1]))
theorem l1Neg_fc (z : Int) : FC Tryz.prog 251 [numS z] (numS (-z)) := by
 refine .b Tryz.func251 14 (fun nx K hK => ?_)
 refine .q ?_
 refine .sq fun K2 hK2 => ?_
 refine .q ?_ (by simp (disch := first|omega|(simp only[ln];omega)) [len_Wd (P := Tryz.prog) #[125] rfl elT125]; rfl)
 refine .c (fun h6 => ?_) (fun h6 => ?_)
 ·try simp only[dc]at h6
  have h0 : z = 0 := by simp at h6; exact dg_nil.mp h6
  refine .q ?_
  refine .ret ?_
  exact hK _ _ _ _ trivial ((Fin.mk (r := numS z) (by simp [aRes, aResL, aRes1])).cast (by rw [h0]; rfl))
 ·try simp only[dc]at h6
  have h0 : z ≠ 0 := by simp at h6; exact fun e => h6 (dg_nil.mpr e)
  refine .skip ?_
  refine hK2 _ ?_
  refine .q ?_
  refine .ret ?_
  exact hK _ _ _ _ trivial ((Fin.mk (r := .agg [.bool (!decide (z < 0)), Wd .u32 (dg z)]) (by simp [aRes, aResL, aRes1])).cast (by unfold numS; rw [dg_neg]; congr 2; congr 1; rw [← decide_not, decide_eq_decide]; omega))
theorem l1Add_fc {j k : Nat} {a b : Int} (ha : Bg j a) (hb : Bg k b) (hj : j ≤ 68719476736) (hk : k ≤ 68719476736) : FC Tryz.prog 192 [numS a, numS b] (numS (a + b)) := by
 have la := ha.len32
 have lb := hb.len32
 have lab := addS_len ha hb
 have hab := addS_dg a b
 refine .b Tryz.func192 40 (fun nx K hK => ?_)
 refine .q ?_
 refine .sq fun K2 hK2 => ?_
 refine .q ?_
 refine .c (fun h9 => ?_) (fun h9 => ?_)
 ·try simp only[dc]at h9
  have hs : (a < 0 ↔ b < 0) := by simpa using h9
  refine .sq fun K4 hK4 => ?_
  refine .d 8 ?_
  refine .k 6 (fun fs5 hfs5 => ?_)
  refine .f (l1AddAbs_fc (dg a) (dg b) (by omega) (by omega) (dg_dig a) (dg_dig b)) hb249 ?_
  refine .f (l1Trim_fc (decide (a < 0)) (addS (dg a) (dg b)) (by omega) hab.1) hb235 ?_
  refine .r 8 (by simp only[ln, hfs5];omega) ?_
  refine hK4 _ ?_
  refine .ret ?_
  exact hK _ _ _ _ trivial ((Fin.mk (r := numS (sg (decide (a < 0)) (val 4294967296 (addS (dg a) (dg b))))) (by simp [aRes, aResL, aRes1])).cast (by congr 1; rw [hab.2]; unfold sg; split <;> simp at * <;> omega))
 ·try simp only[dc]at h9
  have hs : ¬ (a < 0 ↔ b < 0) := by simpa using h9
  refine .skip ?_
  refine hK2 _ ?_
  refine .sq fun K6 hK6 => ?_
  refine .sq fun K7 hK7 => ?_
  refine .region ?_
  refine .kf 4 (l1CmpAbs_fc (dg a) (dg b) (by omega) (by omega)) hb250 ?_
  refine .e ?_
  refine hK7 _ ?_
  refine .c (fun h23 => ?_) (fun h23 => ?_)
  ·try simp only[dc]at h23
   have hc : b.natAbs ≤ a.natAbs := by
     have := cmpS_dg a b; omega
   have hsu := subS_dg hc
   refine .sq fun K8 hK8 => ?_
   refine .d 8 ?_
   refine .k 6 (fun fs9 hfs9 => ?_)
   refine .f (l1SubAbs_fc (dg a) (dg b) (by omega) (dg_dig a) (dg_dig b)) hb247 ?_
   refine .f (l1Trim_fc (decide (a < 0)) (subS (dg a) (dg b)) (by omega) hsu.1) hb235 ?_
   refine .r 8 (by simp only[ln, hfs9];omega) ?_
   refine hK8 _ ?_
   refine .ret ?_
   exact hK _ _ _ _ trivial ((Fin.mk (r := numS (sg (decide (a < 0)) (val 4294967296 (subS (dg a) (dg b))))) (by simp [aRes, aResL, aRes1])).cast (by congr 1; rw [hsu.2.2]; unfold sg; split <;> simp at * <;> omega))
  ·try simp only[dc]at h23
   have hc : a.natAbs ≤ b.natAbs := by
     have := cmpS_dg a b; omega
   have hsu := subS_dg hc
   refine .skip ?_
   refine hK6 _ ?_
   refine .sq fun K10 hK10 => ?_
   refine .d 8 ?_
   refine .k 6 (fun fs11 hfs11 => ?_)
   refine .f (l1SubAbs_fc (dg b) (dg a) (by omega) (dg_dig b) (dg_dig a)) hb247 ?_
   refine .f (l1Trim_fc (decide (b < 0)) (subS (dg b) (dg a)) (by omega) hsu.1) hb235 ?_
   refine .r 8 (by simp only[ln, hfs11];omega) ?_
   refine hK10 _ ?_
   refine .ret ?_
   exact hK _ _ _ _ trivial ((Fin.mk (r := numS (sg (decide (b < 0)) (val 4294967296 (subS (dg b) (dg a))))) (by simp [aRes, aResL, aRes1])).cast (by congr 1; rw [hsu.2.2]; unfold sg; split <;> simp at * <;> omega))
theorem l1Sub_fc {j k : Nat} {a b : Int} (ha : Bg j a) (hb : Bg k b) (hj : j ≤ 68719476736) (hk : k ≤ 68719476736) : FC Tryz.prog 245 [numS a, numS b] (numS (a - b)) := by
 refine .b Tryz.func245 9 (fun nx K hK => ?_)
 refine .q ?_
 refine .sq fun K2 hK2 => ?_
 refine .d 4 ?_
 refine .k 2 (fun fs3 hfs3 => ?_)
 refine .f (l1Neg_fc b) hb251 ?_
 refine .f (l1Add_fc ha hb.neg hj hk) hb192 ?_
 refine .r 4 (by simp only[ln, hfs3];omega) ?_
 refine hK2 _ ?_
 refine .ret ?_
 exact hK _ _ _ _ trivial ((Fin.mk (r := numS (a + -b)) (by simp [aRes, aResL, aRes1])).cast rfl)
theorem l1Cmp_fc {j k : Nat} {a b : Int} (ha : Bg j a) (hb : Bg k b) (hj : j ≤ 68719476736) (hk : k ≤ 68719476736) : FC Tryz.prog 178 [numS a, numS b] (.int .i64 (if a < b then -1 else if a > b then 1 else 0)) := by
 refine .b Tryz.func178 9 (fun nx K hK => ?_)
 refine .q ?_
 refine .sq fun K2 hK2 => ?_
 refine .region ?_
 refine .kf 2 (l1Sub_fc ha hb hj hk) hb245 ?_
 refine .f (l1Sign_fc (a - b)) hb176 ?_
 refine .e ?_
 refine hK2 _ ?_
 refine .ret ?_
 exact hK _ _ _ _ trivial ((Fin.m).cast (by congr 1; split <;> split <;> simp at * <;> first | rfl | omega | (split <;> first | rfl | omega)))
theorem l1Int_fc (n : Int) (h1 : -9223372036854775808 ≤ n) (h2 : n ≤ 9223372036854775807) : FC Tryz.prog 180 [.int .i64 n] (numS n) := by
 refine .b Tryz.func180 19 (fun nx K hK => ?_)
 refine .q ?_
 refine .q ?_
 refine .sq fun K3 hK3 => ?_
 have J3 : ∀ s : St, (s.env 0 = .int .i64 n ∧ s.env 2 = .ptr nx 0 0 ∧ s.env 3 = .int .u64 (n.natAbs : Int) ∧ s.heap = hupd (fun _ => none) nx (some (2, [[.bool false, .nsl]])) ∧ s.nx = nx + 1 ∧ s.nt = 19) → K3 s := by
  rintro ⟨e, H, m, nt⟩ ⟨h0, hp, h3, rfl, rfl, rfl⟩
  simp only [] at h0 hp h3
  generalize hm : n.natAbs = u at *
  have hw1 : IntKind.u32.wrap (u : Int) = (u : Int) % 4294967296 := wrap_u32m _
  refine hK3 _ ?_
  refine .sq fun K4 hK4 => ?_
  refine .region ?_
  refine .k 8 ?_ (by simp (disch := first|omega|(simp only[ln];omega)) [List.take_succ_cons, List.take_zero, h0, hp, h3, hw1, IntKind.bits, Int.fdiv_eq_ediv_of_nonneg]; rfl)
  refine AOPS.frz1 17 (nx + 1) 1 (wd .u32 [(u : Int) % 4294967296, (u : Int) / 4294967296]) (Wd .u32 [(u : Int) % 4294967296, (u : Int) / 4294967296]) (by simp) (by simp; first | exact fz_wd rfl | exact isl_take_wd (by simp)) ?_
  refine .f (l1Trim_fc (decide (n < 0)) [(u : Int) % 4294967296, (u : Int) / 4294967296] (by simp) (Dig.cons (by omega) (by omega) (Dig.cons (by omega) (by omega) (Dig.nil _)))) hb235 ?_ (ha := by simp (disch := first|omega|(simp only[ln];omega)) [idf_Wd', h0, hp, h3, hw1, IntKind.bits, Int.fdiv_eq_ediv_of_nonneg])
  refine .e ?_ (by simp (disch := first|omega|(simp only[ln];omega)) [h0, hp, h3, hw1, IntKind.bits, Int.fdiv_eq_ediv_of_nonneg]; rfl)
  refine hK4 _ ?_
  refine .ret ?_
  exact hK _ _ _ _ trivial ((Fin.mk (r := numS (sg (decide (n < 0)) (val 4294967296 [(u : Int) % 4294967296, (u : Int) / 4294967296]))) (by simp [aRes, aResL, aRes1, hp])).cast (by congr 1; simp only [val]; unfold sg; split <;> simp at * <;> omega))
 refine .q ?_
 refine .c (fun h7 => ?_) (fun h7 => ?_)
 ·try simp only[dc]at h7
  refine .r ?_ (by simp (disch := first|omega|(simp only[ln];omega)) [wrap_u64m]; rfl)
  refine J3 _ ?_
  refine ⟨by simp, by simp, ?_, by simp, rfl, rfl⟩
  simp [wrap_u64m]; omega
 ·try simp only[dc]at h7
  refine .skip ?_
  refine J3 _ ?_
  refine ⟨by simp, by simp, ?_, by simp, rfl, rfl⟩
  simp [wrap_u64m]; omega
end

end Go.Proofs.YtaibemhdfhchfaaGreat

/- Walks: the reference's products. -/
namespace Go.Proofs.YtaibemhdfhchfaaGreat
open Go Go.RowKit
set_option linter.unusedSimpArgs false
set_option linter.unusedVariables false
set_option maxRecDepth 100000
attribute [local simp] szT2 byT2 agT2 unT2 zoT2 szT3 byT3 agT3 unT3 zoT3 szT4 byT4 agT4 unT4 zoT4 szT25 byT25 agT25 unT25 zoT25 szT125 byT125 agT125 elT125 unT125 zoT125 szT127 byT127 agT127 flT127 fdT127_0 fdT127_1 zoT127 szT271 byT271 agT271 unT271 zoT271

/-- The variables of 'l1Mul'. -/
def heapS (nx : Nat) (a b : Int) : Heap := hupd (hupd (hupd (fun _ => none) nx (some (2, [[.bool (decide (a < 0)), Wd .u32 (dg a)]]))) (nx + 1) (some (2, [[.bool (decide (b < 0)), Wd .u32 (dg b)]]))) (nx + 1 + 1) (some (2, [[.bool false, .nsl]]))
theorem mul_step32 {x y o c : Int} (hx : 0 ≤ x ∧ x < 4294967296) (hy : 0 ≤ y ∧ y < 4294967296) (ho : 0 ≤ o ∧ o < 4294967296) (hc : 0 ≤ c ∧ c < 4294967296) :
    0 ≤ x * y ∧ x * y ≤ 18446744065119617025 ∧ 0 ≤ (c + x * y + o) / 4294967296 ∧ (c + x * y + o) / 4294967296 < 4294967296 ∧ (c + x * y + o) % 4294967296 + 4294967296 * ((c + x * y + o) / 4294967296) = x * y + o + c := by
  have h := prod_bound x y hx.1 (by omega) hy.1 (by omega)
  generalize x * y = p at *
  omega
theorem sg_mulS (a b : Int) : numS (sg (!(decide (a < 0) == decide (b < 0))) ((a.natAbs : Int) * (b.natAbs : Int))) = numS (a * b) := by
  congr 1
  rw [← Int.natCast_mul, ← Int.natAbs_mul]
  by_cases ha : a < 0 <;> by_cases hb : b < 0
  · have := Int.mul_nonneg (show 0 ≤ -a by omega) (show 0 ≤ -b by omega)
    rw [Int.neg_mul_neg] at this
    simp [sg, ha, hb]; omega
  · have := Int.mul_nonneg (show 0 ≤ -a by omega) (show 0 ≤ b by omega)
    rw [Int.neg_mul] at this
    simp [sg, ha, hb]; omega
  · have := Int.mul_nonneg (show 0 ≤ a by omega) (show 0 ≤ -b by omega)
    rw [Int.mul_neg] at this
    simp [sg, ha, hb]; omega
  · have := Int.mul_nonneg (show 0 ≤ a by omega) (show 0 ≤ b by omega)
    simp [sg, ha, hb]; omega

section
attribute [local simp] idf_numS cells_numS numS_fold
set_option maxHeartbeats 1000000 in
theorem l1Mul_fc {j k : Nat} {a b : Int} (ha : Bg j a) (hb : Bg k b) (hj : j ≤ 68719476736) (hk : k ≤ 68719476736) : FC Tryz.prog 182 [numS a, numS b] (numS (a * b)) := by
 have la : (dg a).length ≤ 137438953472 := by have := ha.len32; omega
 have lb : (dg b).length ≤ 137438953472 := by have := hb.len32; omega
 have da := dg_dig a
 have db := dg_dig b
 refine .b Tryz.func182 90 (fun nx K hK => ?_)
 refine .q ?_
 refine .sq fun K2 hK2 => ?_
 refine .sq fun K3 hK3 => ?_
 by_cases ha0 : dg a = []
 ·refine .r ?_ (by simp (disch := first|omega|(simp only[ln];omega)) [len_Wd (P := Tryz.prog) #[125] rfl elT125, ha0]; rfl)
  refine hK3 _ ?_
  refine .c (fun h18 => ?_) (fun h18 => ?_)
  ·try simp only[dc]at h18
   refine .q ?_
   refine .ret ?_
   exact hK _ _ _ _ trivial ((Fin.mk (r := .agg [.bool false, .nsl]) (by simp [aRes, aResL, aRes1])).weak (by rw [dg_nil.mp ha0, Int.zero_mul]; exact fun _ _ _ _ => nS0_weak))
  ·simp at h18
 ·have ea : (((dg a).length : Int) == 0) = false := beq_eq_false_iff_ne.mpr (by have := List.length_pos_iff.mpr ha0; omega)
  by_cases hb0 : dg b = []
  ·refine .r ?_ (by simp (disch := first|omega|(simp only[ln];omega)) [len_Wd (P := Tryz.prog) #[125] rfl elT125, ea, hb0]; rfl)
   refine hK3 _ ?_
   refine .c (fun h18 => ?_) (fun h18 => ?_)
   ·try simp only[dc]at h18
    refine .q ?_
    refine .ret ?_
    exact hK _ _ _ _ trivial ((Fin.mk (r := .agg [.bool false, .nsl]) (by simp [aRes, aResL, aRes1])).weak (by rw [dg_nil.mp hb0, Int.mul_zero]; exact fun _ _ _ _ => nS0_weak))
   ·simp at h18
  ·have eb : (((dg b).length : Int) == 0) = false := beq_eq_false_iff_ne.mpr (by have := List.length_pos_iff.mpr hb0; omega)
   refine .r ?_ (by simp (disch := first|omega|(simp only[ln];omega)) [len_Wd (P := Tryz.prog) #[125] rfl elT125, ea, eb]; rfl)
   refine hK3 _ ?_
   refine .c (fun h18 => ?_) (fun h18 => ?_)
   ·simp at h18
   ·try simp only[dc]at h18
    refine .skip ?_
    refine hK2 _ ?_
    refine .q ?_ (by simp (disch := first|omega|(simp only[ln];omega)) [if_pos, len_Wd (P := Tryz.prog) #[125] rfl elT125]; rfl)
    refine .sq fun K7 hK7 => ?_
    refine .q ?_
    refine .block ?_
    refine .loop (fun n s => ∃ i out, n = (dg a).length - i ∧ i ≤ (dg a).length ∧ out.length = (dg a).length + (dg b).length ∧ Dig 4294967296 out ∧ val 4294967296 out = val 4294967296 ((dg a).take i) * val 4294967296 (dg b) ∧ (∀ q, i + (dg b).length ≤ q → gt out q = 0) ∧ s.env 2 = .ptr nx 0 0 ∧ s.env 3 = .ptr (nx + 1) 0 0 ∧ s.env 4 = .ptr (nx + 1 + 1) 0 0 ∧ s.env 5 = .osl (nx + 1 + 1 + 1) 0 ((dg a).length + (dg b).length) ∧ s.env 6 = .int .i64 (i : Int) ∧ s.heap = hupd (heapS nx a b) (nx + 1 + 1 + 1) (some (1, wd .u32 out)) ∧ s.nt = 90) ((dg a).length) (⟨0, List.replicate ((dg a).length + (dg b).length) 0, by omega, by omega, by simp, Dig.replicate _ (by omega) (by omega), by simp [val, val_replicate], by intro q _; simp [gt, List.getElem?_replicate]; split <;> rfl, by simp, by simp, by simp, by simp; omega, by simp, by simp [heapS]; rfl, rfl⟩) ?_
    rintro n ⟨e, H, nx2, nt⟩ ⟨i, out, rfl, hi, ho, hd, hval, hz, h2, h3, h4, h5, h6, rfl, rfl⟩
    simp only [] at h2 h3 h4 h5 h6
    refine .sq fun K9 hK9 => ?_
    refine .q ?_ (by simp (disch := first|omega|(simp only[ln];omega)) [len_Wd (P := Tryz.prog) #[125] rfl elT125, h2, h6, heapS]; rfl)
    refine .c (fun h32 => ?_) (fun h32 => ?_)
    ·try simp only[dc]at h32
     have hi' : i < (dg a).length := by omega
     refine .skip ?_
     refine hK9 _ ?_
     refine .sq fun K11 hK11 => ?_
     refine .block ?_
     refine .q ?_
     refine .sq fun K13 hK13 => ?_
     refine .q ?_
     refine .block ?_
     refine .loop (fun n s => ∃ q out2 c, n = (dg b).length - q ∧ q ≤ (dg b).length ∧ out2.length = (dg a).length + (dg b).length ∧ Dig 4294967296 out2 ∧ 0 ≤ c ∧ c < 4294967296 ∧ val 4294967296 out2 + c * (4294967296 : Int) ^ (i + q) = val 4294967296 ((dg a).take i) * val 4294967296 (dg b) + (4294967296 : Int) ^ i * gt (dg a) i * val 4294967296 ((dg b).take q) ∧ (∀ j, i + (dg b).length ≤ j → gt out2 j = 0) ∧ s.env 2 = .ptr nx 0 0 ∧ s.env 3 = .ptr (nx + 1) 0 0 ∧ s.env 4 = .ptr (nx + 1 + 1) 0 0 ∧ s.env 5 = .osl (nx + 1 + 1 + 1) 0 ((dg a).length + (dg b).length) ∧ s.env 6 = .int .i64 (i : Int) ∧ s.env 7 = .int .u64 c ∧ s.env 8 = .int .i64 (q : Int) ∧ s.heap = hupd (heapS nx a b) (nx + 1 + 1 + 1) (some (1, wd .u32 out2)) ∧ s.nt = 90) ((dg b).length) (⟨0, out, 0, by omega, by omega, ho, hd, by omega, by omega, by simp [val, hval], hz, by simp [h2], by simp [h3], by simp [h4], by simp [h5], by simp [h6], by simp, by simp, by simp [heapS], rfl⟩) ?_
     clear h2 h3 h4 h5 h6
     rintro n ⟨e, H, nx2, nt⟩ ⟨q, out2, c, rfl, hq, ho2, hd2, hc0, hc1, hval2, hz2, h2, h3, h4, h5, h6, h7, h8, rfl, rfl⟩
     simp only [] at h2 h3 h4 h5 h6 h7 h8
     refine .sq fun K15 hK15 => ?_
     refine .q ?_ (by simp (disch := first|omega|(simp only[ln];omega)) [len_Wd (P := Tryz.prog) #[125] rfl elT125, h3, h8, heapS]; rfl)
     refine .c (fun h39 => ?_) (fun h39 => ?_)
     ·try simp only[dc]at h39
      have hq' : q < (dg b).length := by omega
      have hgx := da.gt (by omega) i
      have hgy := db.gt (by omega) q
      have hgo := hd2.gt (by omega) (i + q)
      have hms := mul_step32 hgx hgy hgo ⟨hc0, hc1⟩
      have hpr0 := hms.1
      have hpr1 := hms.2.1
      have hiq : ((i : Int) + (q : Int)).toNat = i + q := by omega
      refine .skip ?_
      refine hK15 _ ?_
      refine .sq fun K17 hK17 => ?_
      refine .block ?_
      refine .sq fun K18 hK18 => ?_
      refine .df 23 ?_ (by simp (disch := first|omega|(simp only[ln];omega)) [runDf.eq_def, runF1, runF2, stepF.eq_def, updo.eq_def, hupo.eq_def, opSto1.eq_def, idx_WdD (P := Tryz.prog) elT125 szT271, if_pos, h2, h3, h5, h6, h7, h8, heapS, hiq, ho2, ld_ip agT271]; rfl)
      refine hK18 _ ?_
      refine .q ?_ (by simp (disch := first|omega|(simp only[ln];omega)) [idx_WdD (P := Tryz.prog) elT125 szT271, if_pos, h5, h6, h8, heapS, hiq, ho2, wrap_u32m]; rfl)
      refine .r ?_ (by simp (disch := first|omega|(simp only[ln];omega)) [IntKind.bits, Int.fdiv_eq_ediv_of_nonneg]; rfl)
      refine hK17 _ ?_
      refine .r ?_ (by simp (disch := first|omega|(simp only[ln];omega)) [h8]; rfl)
      have hp1 : (4294967296 : Int) ^ (i + (q + 1)) = (4294967296 : Int) ^ i * (4294967296 : Int) ^ q * 4294967296 := by rw [← Nat.add_assoc, Int.pow_succ, Int.pow_add]
      have hp2 : (4294967296 : Int) ^ (i + q) = (4294967296 : Int) ^ i * (4294967296 : Int) ^ q := Int.pow_add _ _ _
      refine ⟨(dg b).length - (q + 1), by omega, q + 1, out2.set (i + q) ((c + gt (dg a) i * gt (dg b) q + gt out2 (i + q)) % 4294967296), (c + gt (dg a) i * gt (dg b) q + gt out2 (i + q)) / 4294967296, rfl, by omega, by simp [ho2], hd2.set _ (Int.emod_nonneg _ (by omega)) (Int.emod_lt_of_pos _ (by omega)), hms.2.2.1, hms.2.2.2.1, ?_, fun j hj => by rw [gt_set_ne (by omega)]; exact hz2 j (by omega), by simp [h2], by simp [h3], by simp [h4], by simp [h5], by simp [h6], by simp, by simp (disch := omega) [h8], by simp [heapS], rfl⟩
      rw [val_setC (by omega), val_take32, hp1]
      rw [hp2] at hval2 ⊢
      have := hms.2.2.2.2
      grind
     ·try simp only[dc]at h39
      obtain rfl : q = (dg b).length := by omega
      refine .exit ?_
      refine hK13 _ ?_
      have hil : ((i : Int) + ((dg b).length : Int)).toNat = i + (dg b).length := by omega
      refine .r ?_ (by simp (disch := first|omega|(simp only[ln];omega)) [idx_WdD (P := Tryz.prog) elT125 szT271, if_pos, len_Wd (P := Tryz.prog) #[125] rfl elT125, h3, h5, h6, h7, heapS, ho2, hil]; rfl)
      refine hK11 _ ?_
      refine .r ?_ (by simp (disch := first|omega|(simp only[ln];omega)) [h6]; rfl)
      have hpw : (4294967296 : Int) ^ (i + (dg b).length) = (4294967296 : Int) ^ i * (4294967296 : Int) ^ (dg b).length := Int.pow_add _ _ _
      refine ⟨(dg a).length - (i + 1), by omega, i + 1, out2.set (i + (dg b).length) c, rfl, by omega, by simp [ho2], hd2.set _ hc0 hc1, ?_, fun j hj => by rw [gt_set_ne (by omega)]; exact hz2 j (by omega), by simp [h2], by simp [h3], by simp [h4], by simp [h5], by simp (disch := omega) [h6], by simp [heapS], rfl⟩
      rw [val_take_all (Nat.le_refl _)] at hval2
      rw [val_setC (by omega), hz2 _ (Nat.le_refl _), val_take32]
      grind
    ·try simp only[dc]at h32
     obtain rfl : i = (dg a).length := by omega
     refine .exit ?_
     refine hK7 _ ?_
     refine .sq fun K20 hK20 => ?_
     refine .region ?_
     refine .k 6 ?_ (by simp (disch := first|omega|(simp only[ln];omega)) [List.take_succ_cons, List.take_zero, h2, h3, h4, h5, heapS]; rfl)
     refine AOPS.frz1 88 (nx + 1 + 1 + 1) 1 (wd .u32 out) (Wd .u32 out) (by simp) (by simp; first | exact fz_wd (by omega) | exact isl_take_wd (by omega)) ?_
     refine .f (l1Trim_fc (!(decide (a < 0) == decide (b < 0))) out (by omega) hd) hb235 ?_ (ha := by simp (disch := first|omega|(simp only[ln];omega)) [idf_Wd', h2, h3, h4, h5, heapS])
     refine .e ?_ (by simp (disch := first|omega|(simp only[ln];omega)) [h2, h3, h4, h5, heapS]; rfl)
     refine hK20 _ ?_
     refine .ret ?_
     exact hK _ _ _ _ trivial ((Fin.mk (r := numS (sg (!(decide (a < 0) == decide (b < 0))) (val 4294967296 out))) (by simp [aRes, aResL, aRes1, h4])).cast (by rw [hval, val_take_all (Nat.le_refl _), dg_val, dg_val, sg_mulS]))
end
theorem l1Bits_fc {k : Nat} {z : Int} (hz : Bg k z) (hk : k ≤ 68719476736) : FC Tryz.prog 244 [Wd .u32 (dg z)] (.int .i64 (bitLen z.natAbs : Int)) := by
 have lz : (dg z).length ≤ 137438953472 := by have := hz.len32; omega
 refine .b Tryz.func244 25 (fun nx K hK => ?_)
 refine .q ?_
 refine .sq fun K2 hK2 => ?_
 refine .q ?_ (by simp (disch := first|omega|(simp only[ln];omega)) [len_Wd (P := Tryz.prog) #[125] rfl elT125]; rfl)
 refine .c (fun h7 => ?_) (fun h7 => ?_)
 ·try simp only[dc]at h7
  have h0 : z = 0 := by simp at h7; exact dg_nil.mp h7
  refine .q ?_
  refine .ret ?_
  exact hK _ _ _ _ trivial (Fin.mk (by simp [aRes, aResL, aRes1, h0, bitLen]))
 ·try simp only[dc]at h7
  have h0 : 0 < (dg z).length := by simp at h7; exact List.length_pos_iff.mpr h7
  have hg := (dg_dig z).gt (by omega) ((dg z).length - 1)
  obtain ⟨q, hq⟩ : ∃ q : Nat, gt (dg z) ((dg z).length - 1) = (q : Int) := ⟨_, (Int.toNat_of_nonneg hg.1).symm⟩
  have hs := bitLen_topS z q h0 hq
  have he : (((dg z).length : Int) - 1).toNat = (dg z).length - 1 := by omega
  refine .skip ?_
  refine hK2 _ ?_
  refine .q ?_ (by simp (disch := first|omega|(simp only[ln];omega)) [len_Wd (P := Tryz.prog) #[125] rfl elT125]; rfl)
  refine .q ?_ (by simp (disch := first|omega|(simp only[ln];omega)) [idx_WdD (P := Tryz.prog) elT125 szT271, if_pos, len_Wd (P := Tryz.prog) #[125] rfl elT125, he, hq, ld_ip agT271]; rfl)
  refine .sq fun K7 hK7 => ?_
  refine .block ?_
  refine .loop (fun n s => ∃ m : Nat, n = m ∧ m ≤ q ∧ s.env 3 = .int .i64 ((bitLen z.natAbs : Int) - bitLen m) ∧ s.env 4 = .int .u32 (m : Int) ∧ s.heap = (fun _ => none) ∧ s.nt = 25) (q) (⟨q, rfl, Nat.le_refl _, by simp (disch := omega); omega, by simp, rfl, rfl⟩) ?_
  rintro n ⟨e, H, nx2, nt⟩ ⟨m, rfl, hm, h3, h4, rfl, rfl⟩
  simp only [] at h3 h4
  have hb32 : bitLen q ≤ 32 := bitLen_le.mpr (by show q < 4294967296; omega)
  have hbm : bitLen n ≤ 32 := bitLen_le.mpr (by show n < 4294967296; omega)
  refine .sq fun K8 hK8 => ?_
  refine .q ?_ (by simp (disch := first|omega|(simp only[ln];omega)) [h4]; rfl)
  refine .c (fun h19 => ?_) (fun h19 => ?_)
  ·try simp only[dc]at h19
   have hh := bitLen_half (show n ≠ 0 by omega)
   refine .skip ?_
   refine hK8 _ ?_
   refine .block ?_
   refine .q ?_ (by simp (disch := first|omega|(simp only[ln];omega)) [h3]; rfl)
   refine .r ?_ (by simp (disch := first|omega|(simp only[ln];omega)) [h4, IntKind.bits, Int.fdiv_eq_ediv_of_nonneg]; rfl)
   exact ⟨n / 2, by omega, n / 2, rfl, by omega, by simp (disch := omega); omega, by simp, rfl, rfl⟩
  ·try simp only[dc]at h19
   obtain rfl : n = 0 := by omega
   refine .exit ?_
   refine hK7 _ ?_
   refine .q ?_ (by simp (disch := first|omega|(simp only[ln];omega)) [h3]; rfl)
   refine .ret ?_
   exact hK _ _ _ _ trivial (Fin.mk (by simp [aRes, aResL, aRes1, bitLen]))

end Go.Proofs.YtaibemhdfhchfaaGreat

/- Walks: the reference's shifts. -/
namespace Go.Proofs.YtaibemhdfhchfaaGreat
open Go Go.RowKit
set_option linter.unusedSimpArgs false
set_option linter.unusedVariables false
set_option maxRecDepth 100000
attribute [local simp] szT2 byT2 agT2 unT2 zoT2 szT3 byT3 agT3 unT3 zoT3 szT4 byT4 agT4 unT4 zoT4 szT25 byT25 agT25 unT25 zoT25 szT27 byT27 agT27 flT27 fdT27_0 fdT27_1 fdT27_2 fdT27_3 zoT27 szT125 byT125 agT125 elT125 unT125 zoT125 szT127 byT127 agT127 flT127 fdT127_0 fdT127_1 zoT127 szT204 byT204 agT204 unT204 zoT204 szT271 byT271 agT271 unT271 zoT271

theorem fld_numS (z : Int) : aFld Tryz.prog 127 (numS z) 1 = some (Wd .u32 (dg z)) := by
  simp only [aFld, numS, fdT127_1, agT125]; rfl

section
attribute [local simp] idf_numS cells_numS numS_fold
set_option maxHeartbeats 2000000 in
theorem l1Left_fc (d : List Int) (dd : Dig 4294967296 d) (q k : Nat) (hq : q ≤ 1073741824) (hk : k < 32) (hd : d.length ≤ 68719476736) : FC Tryz.prog 236 [Wd .u32 d, .int .i64 ((32 * q + k : Nat) : Int)] (Wd .u32 (dg (4294967296 ^ q * (val 4294967296 d * 2 ^ k)))) := by
 have hp1 : (1 : Int) ≤ 2 ^ k := by have : (0 : Int) < 2 ^ k := Int.pow_pos (by omega); omega
 have hp2 : (2 : Int) ^ k ≤ 2147483648 := by
   have : (2 : Nat) ^ k ≤ 2 ^ 31 := Nat.pow_le_pow_right (by omega) (by omega)
   have e : (((2 ^ k : Nat)) : Int) = (2 : Int) ^ k := by simp
   rw [← e]; have e2 : (2 : Nat) ^ 31 = 2147483648 := rfl; omega
 have hls := leftL_spec dd q hp1 hp2
 have ht1 : ((32 * q + k : Nat) : Int).tdiv 32 = q := by rw [Int.tdiv_eq_ediv_of_nonneg (by omega)]; omega
 have ht2 : ((32 * q + k : Nat) : Int).tmod 32 = k := by rw [Int.tmod_eq_emod_of_nonneg (by omega)]; omega
 have hmin : min k 64 = k := by omega
 generalize hN : ((32 * q + k : Nat) : Int) = N at *
 refine .b Tryz.func236 47 (fun nx K hK => ?_)
 refine .q ?_
 refine .q ?_ (by simp (disch := first|omega|(simp only[ln];omega)) [if_pos, ht1]; rfl)
 refine .q ?_ (by simp (disch := first|omega|(simp only[ln];omega)) [ht2]; rfl)
 refine .q ?_
 refine .sq fun K5 hK5 => ?_
 refine .q ?_
 refine .block ?_
 refine .loop (fun n s => ∃ i id, n = d.length - i ∧ i ≤ d.length ∧ s.env 0 = Wd .u32 d ∧ s.env 5 = .osl id 0 (q + i) ∧ s.env 6 = .int .u64 (k : Int) ∧ s.env 7 = .int .u64 (leftR d (2 ^ k) i).2 ∧ s.env 8 = .int .i64 (i : Int) ∧ s.heap id = some (1, wd .u32 (List.replicate q 0 ++ (leftR d (2 ^ k) i).1)) ∧ id < s.nx ∧ s.nt = 47) (d.length) (⟨0, nx, by omega, by omega, by simp, by simp, by simp, by simp [leftR], by simp, by simp [leftR], by simp, rfl⟩) ?_
 rintro n ⟨e, H, m, nt⟩ ⟨i, id, rfl, hi, h0, h5, h6, h7, h8, hH, hid, rfl⟩
 simp only [] at h0 h5 h6 h7 h8 hH hid
 obtain ⟨r1, r2, r3, r4, r5⟩ := leftR_spec dd hp1 i
 have hlen : (List.replicate q (0 : Int) ++ (leftR d (2 ^ k) i).1).length = q + i := by simp [r1]
 have ht : List.take (q + i) (List.replicate q (0 : Int) ++ (leftR d (2 ^ k) i).1) = List.replicate q (0 : Int) ++ (leftR d (2 ^ k) i).1 := List.take_of_length_le (by omega)
 refine .sq fun K7 hK7 => ?_
 refine .q ?_ (by simp (disch := first|omega|(simp only[ln];omega)) [len_Wd (P := Tryz.prog) #[125] rfl elT125, h0, h8]; rfl)
 refine .c (fun h18 => ?_) (fun h18 => ?_)
 ·try simp only[dc]at h18
  have hi' : i < d.length := by omega
  have gd := dd.gt (by omega) i
  have hm0 : 0 ≤ gt d i * 2 ^ k := Int.mul_nonneg gd.1 (by omega)
  have hm1 : gt d i * 2 ^ k ≤ 4294967295 * 2147483648 := Int.mul_le_mul (by omega) hp2 (by omega) (by omega)
  have hor := or_join r3 r4 gd.1 (by omega) (by omega)
  refine .skip ?_
  refine hK7 _ ?_
  refine .sq fun K9 hK9 => ?_
  refine .block ?_
  refine .q ?_ (by simp (disch := first|omega|(simp only[ln];omega)) [idx_WdD (P := Tryz.prog) elT125 szT271, if_pos, h0, h6, h7, h8, hmin, hor, IntKind.bits, ld_ip agT271]; rfl)
  refine .sq fun K11 hK11 => ?_
  refine .region ?_
  refine .k 4 ?_ (by simp (disch := first|omega|(simp only[ln];omega)) [List.take_succ_cons, List.take_zero, h5, hH, r1, ht, hlen, Nat.ne_of_lt hid]; rfl)
  refine AOPS.opapp (by simp (disch := first|omega|(simp only[ln];omega)) [opApp.eq_def, aSrc_isl, aSrc_osl, aSrc_nsl, aSrc_int, wd_app, wd_app2, if_pos, wd_append, wd_take, wd_drop, List.nil_append, h5, hH, r1, ht, hlen, Nat.ne_of_lt hid, src_Wd' (P := Tryz.prog) elT125]; first | rfl | exact ⟨rfl, rfl⟩ | exact ⟨rfl, rfl, rfl⟩) (by simp) (by simp) ?_
  simp only [puts_some, hdrop]
  refine .e ?_ (by simp (disch := first|omega|(simp only[ln];omega)) [h5, hH, r1, ht, hlen, Nat.ne_of_lt hid]; rfl)
  refine hK11 _ ?_
  refine .r ?_ (by simp (disch := first|omega|(simp only[ln];omega)) [IntKind.bits, Int.fdiv_eq_ediv_of_nonneg]; rfl)
  refine hK9 _ ?_
  refine .r ?_ (by simp (disch := first|omega|(simp only[ln];omega)) [h8]; rfl)
  refine ⟨d.length - (i + 1), by omega, i + 1, m + 1, rfl, by omega, by simp [h0], by simp [r1] <;> omega, by simp [h6], by simp [leftR], by simp (disch := omega) [h8], by simp [leftR, ht, wrap_u32m], by simp, rfl⟩
 ·try simp only[dc]at h18
  obtain rfl : i = d.length := by omega
  refine .exit ?_
  refine hK5 _ ?_
  refine .sq fun K12 hK12 => ?_
  refine .q ?_ (by simp (disch := first|omega|(simp only[ln];omega)) [h7]; rfl)
  refine .c (fun h38 => ?_) (fun h38 => ?_)
  ·try simp only[dc]at h38
   have hc : 0 < (leftR d (2 ^ k) d.length).2 := by omega
   have hm2 : (leftR d (2 ^ k) d.length).2 % 4294967296 = (leftR d (2 ^ k) d.length).2 := Int.emod_eq_of_lt r3 (by omega)
   refine .region ?_
   refine .k 4 ?_ (by simp (disch := first|omega|(simp only[ln];omega)) [List.take_succ_cons, List.take_zero, h5, h7, hH, r1, ht, hlen, Nat.ne_of_lt hid]; rfl)
   refine AOPS.opapp (by simp (disch := first|omega|(simp only[ln];omega)) [opApp.eq_def, aSrc_isl, aSrc_osl, aSrc_nsl, aSrc_int, wd_app, wd_app2, if_pos, wd_append, wd_take, wd_drop, List.nil_append, h5, h7, hH, r1, ht, hlen, Nat.ne_of_lt hid, src_Wd' (P := Tryz.prog) elT125]; first | rfl | exact ⟨rfl, rfl⟩ | exact ⟨rfl, rfl, rfl⟩) (by simp) (by simp) ?_
   simp only [puts_some, hdrop]
   refine .e ?_ (by simp (disch := first|omega|(simp only[ln];omega)) [h5, h7, hH, r1, ht, hlen, Nat.ne_of_lt hid]; rfl)
   refine hK12 _ ?_
   refine .sq fun K14 hK14 => ?_
   refine AWP.region ?_
   refine AOPS.runk 1 (by simp (disch := first|omega|(simp only[ln];omega)) [List.take_succ_cons, List.take_zero, h5]; rfl) ?_
   simp only [List.drop_succ_cons, List.drop_zero]
   refine AOPS.frz1 44 (m + 1) 1 (wd .u32 (leftL d q (2 ^ k))) (Wd .u32 (leftL d q (2 ^ k))) (by simp [leftL, hc, wrap_u32m, ht, hm2, hH]) (by simp [h5, r1]; first | exact fz_wd (by simp [leftL, hc, r1]; try omega) | exact isl_take_wd (by simp [leftL, hc, r1]; try omega)) ?_
   refine AOPS.fcall (l1Trim_fc false (leftL d q (2 ^ k)) (by omega) hls.1) rfl rfl rfl hb235 (by simp) (by simp) (by simp) ?_
   simp only [puts_some]
   refine AOPS.opval (Wd .u32 (dg (sg false (val 4294967296 (leftL d q (2 ^ k)))))) (fld_numS _) (by simp) (by simp) ?_
   simp only [puts_some]
   refine AOPS.all (by simp; rfl) ?_
   refine hK14 _ ?_
   refine .ret ?_
   exact hK _ _ _ _ trivial ((Fin.mk (r := Wd .u32 (dg (sg false (val 4294967296 (leftL d q (2 ^ k)))))) (by simp [aRes, aResL, aRes1])).cast (by rw [sg_false, hls.2.2]))
  ·try simp only[dc]at h38
   have hc : ¬ 0 < (leftR d (2 ^ k) d.length).2 := by omega
   have hm2 : True := trivial
   refine .skip ?_
   refine hK12 _ ?_
   refine .sq fun K15 hK15 => ?_
   refine AWP.region ?_
   refine AOPS.runk 1 (by simp (disch := first|omega|(simp only[ln];omega)) [List.take_succ_cons, List.take_zero, h5]; rfl) ?_
   simp only [List.drop_succ_cons, List.drop_zero]
   refine AOPS.frz1 44 (id) 1 (wd .u32 (leftL d q (2 ^ k))) (Wd .u32 (leftL d q (2 ^ k))) (by simp [leftL, hc, wrap_u32m, ht, hm2, hH]) (by simp [h5, r1]; first | exact fz_wd (by simp [leftL, hc, r1]; try omega) | exact isl_take_wd (by simp [leftL, hc, r1]; try omega)) ?_
   refine AOPS.fcall (l1Trim_fc false (leftL d q (2 ^ k)) (by omega) hls.1) rfl rfl rfl hb235 (by simp) (by simp) (by simp) ?_
   simp only [puts_some]
   refine AOPS.opval (Wd .u32 (dg (sg false (val 4294967296 (leftL d q (2 ^ k)))))) (fld_numS _) (by simp) (by simp) ?_
   simp only [puts_some]
   refine AOPS.all (by simp; rfl) ?_
   refine hK15 _ ?_
   refine .ret ?_
   exact hK _ _ _ _ trivial ((Fin.mk (r := Wd .u32 (dg (sg false (val 4294967296 (leftL d q (2 ^ k)))))) (by simp [aRes, aResL, aRes1])).cast (by rw [sg_false, hls.2.2]))
end

end Go.Proofs.YtaibemhdfhchfaaGreat

/- Walks: the reference's divisions. -/
namespace Go.Proofs.YtaibemhdfhchfaaGreat
open Go Go.RowKit
set_option linter.unusedSimpArgs false
set_option linter.unusedVariables false
set_option maxRecDepth 100000
attribute [local simp] szT2 byT2 agT2 unT2 zoT2 szT3 byT3 agT3 unT3 zoT3 szT4 byT4 agT4 unT4 zoT4 szT125 byT125 agT125 elT125 unT125 zoT125 szT127 byT127 agT127 flT127 fdT127_0 fdT127_1 zoT127 szT204 byT204 agT204 unT204 zoT204 szT271 byT271 agT271 unT271 zoT271

theorem Bg.mod {j n : Nat} (h : Bg j (n : Int)) (x : Nat) (hn : n ≠ 0) : Bg j ((x % n : Nat) : Int) := by
  unfold Bg at *
  rw [Int.natAbs_natCast] at *
  have := Nat.mod_lt x (Nat.pos_of_ne_zero hn)
  omega
theorem sbound {a d N k j : Nat} (hd : d ≠ 0) (hna : bitLen a ≤ 64 * j) (hN : bitLen a = bitLen d + N) (hk : k ≤ N) : Bg j ((d * 2 ^ k : Nat) : Int) := by
  unfold Bg
  simp only [Int.natAbs_natCast]
  have h1 : d < 2 ^ bitLen d := bitLen_le.1 (Nat.le_refl _)
  have h2 : d * 2 ^ k < 2 ^ bitLen d * 2 ^ k := Nat.mul_lt_mul_of_pos_right h1 (Nat.two_pow_pos k)
  rw [← Nat.pow_add] at h2
  have h3 : (2 : Nat) ^ (bitLen d + k) ≤ 2 ^ (64 * j) := Nat.pow_le_pow_right (by omega) (by omega)
  have : (2 : Nat) ^ (64 * j) = 18446744073709551616 ^ j := by rw [Nat.pow_mul]
  omega
theorem l1LeftI (d k : Nat) (hk : k ≤ 34359738367) (hl : (dg (d : Int)).length ≤ 68719476736) : FC Tryz.prog 236 [Wd .u32 (dg (d : Int)), .int .i64 (k : Int)] (Wd .u32 (dg ((d * 2 ^ k : Nat) : Int))) := by
  have h := l1Left_fc (dg (d : Int)) (dg_dig _) (k / 32) (k % 32) (by omega) (by omega) hl
  rw [show 32 * (k / 32) + k % 32 = k from by omega, dg_val, Int.natAbs_natCast, shl_val] at h
  rw [Int.natCast_mul, pow2_cast]
  exact h

section
attribute [local simp] idf_numS cells_numS numS_fold
set_option maxHeartbeats 2000000 in
theorem l1DivAbs_fc {j : Nat} (a d : Nat) (hd : d ≠ 0) (ha : Bg j a) (hb : Bg j d) (hj : j ≤ 16777216) : FC Tryz.prog 246 [Wd .u32 (dg (a : Int)), Wd .u32 (dg (d : Int))] (.tup [Wd .u32 (dg ((a / d : Nat) : Int)), Wd .u32 (dg ((a % d : Nat) : Int))]) := by
 have la := ha.len32
 have lb := hb.len32
 have hna : bitLen a ≤ 64 * j := by
   rw [bitLen_le]; unfold Bg at ha
   have : (2 : Nat) ^ (64 * j) = 18446744073709551616 ^ j := by rw [Nat.pow_mul]
   rw [this]; simpa using ha
 have hnb : bitLen d ≤ 64 * j := by
   rw [bitLen_le]; unfold Bg at hb
   have : (2 : Nat) ^ (64 * j) = 18446744073709551616 ^ j := by rw [Nat.pow_mul]
   rw [this]; simpa using hb
 refine .b Tryz.func246 59 (fun nx K hK => ?_)
 refine .q ?_
 refine .sq fun K2 hK2 => ?_
 refine .region ?_
 refine .kf 1 (l1Bits_fc ha (by omega)) hb244 ?_
 refine .kf 1 (l1Bits_fc hb (by omega)) hb244 ?_
 refine .e ?_
 refine hK2 _ ?_
 refine .sq fun K3 hK3 => ?_
 refine .q ?_
 refine .c (fun h17 => ?_) (fun h17 => ?_)
 ·try simp only[dc]at h17
  have hlt : a < d := bitLen_lt (by omega)
  refine .q ?_
  refine .ret ?_
  exact hK _ _ _ _ trivial (((Fin.mk (r := .tup [.nsl, Wd .u32 (dg (a : Int))]) (by simp [aRes, aResL, aRes1])).weak (r' := .tup [Wd .u32 [], Wd .u32 (dg (a : Int))]) (fun _ _ _ _ h => by
    obtain ⟨vs, rfl, u, r, e, h1, h2⟩ := h
    exact ⟨vs, rfl, u, r, e, nsl_Wd .u32 h1, h2⟩)).cast (by rw [Nat.div_eq_of_lt hlt, Nat.mod_eq_of_lt hlt, show ((0 : Nat) : Int) = 0 from rfl, dg_zero]))
 ·try simp only[dc]at h17
  obtain ⟨N, hN⟩ : ∃ N, bitLen a = bitLen d + N := ⟨bitLen a - bitLen d, by omega⟩
  have hN2 : N < bitLen a := by have := bitLen_ne hd; omega
  have eN : (bitLen a : Int) - (bitLen d : Int) = N := by omega
  have hst := DvS.start hd hN
  have eq : (N : Int).tdiv 32 = ((N / 32 : Nat) : Int) := by rw [Int.tdiv_eq_ediv_of_nonneg (by omega)]; omega
  have etn : ((N : Int) / 32 + 1).toNat = N / 32 + 1 := by omega
  refine .skip ?_
  refine hK3 _ ?_
  refine .q ?_ (by simp (disch := first|omega|(simp only[ln];omega)) [if_pos, eN, eq]; rfl)
  refine .q ?_ (by simp (disch := first|omega|(simp only[ln];omega)) [eN]; rfl)
  refine .sq fun K8 hK8 => ?_
  refine .q ?_ (by simp (disch := first|omega|(simp only[ln];omega)) [eN]; rfl)
  refine .block ?_
  refine .loop (fun n s => ∃ (i id : Nat) (q : List Int) (R : Int), n = i ∧ i ≤ N + 1 ∧ DvS a d q R i ∧ q.length = N / 32 + 1 ∧ R ≤ a ∧ s.env 1 = Wd .u32 (dg (d : Int)) ∧ s.env 7 = .osl id 0 (N / 32 + 1) ∧ s.env 8 = Wd .u32 (dg R) ∧ s.env 9 = .int .i64 ((i : Int) - 1) ∧ s.heap id = some (1, wd .u32 q) ∧ id < s.nx ∧ s.nt = 59) (N + 1) (⟨N + 1, nx, _, _, rfl, by omega, hst, by simp, by omega, by simp, by simp [etn], by simp, by simp, by simp [etn], by simp, rfl⟩) ?_
  rintro n ⟨e, H, m, nt⟩ ⟨i, id, q, R, rfl, hi, hS, hq, hR, h1, h7, h8, h9, hH, hid, rfl⟩
  simp only [] at h1 h7 h8 h9 hH hid
  have hR0 := hS.nn
  have bR : Bg j R := by unfold Bg at *; have := Int.natAbs_of_nonneg hR0; simp at ha; omega
  have lR := bR.len32
  refine .sq fun K10 hK10 => ?_
  refine .q ?_ (by simp (disch := first|omega|(simp only[ln];omega)) [h9]; rfl)
  refine .c (fun h26 => ?_) (fun h26 => ?_)
  ·try simp only[dc]at h26
   obtain ⟨k, rfl⟩ : ∃ k, n = k + 1 := ⟨n - 1, by omega⟩
   have e9 : ((k + 1 : Nat) : Int) - 1 = k := by omega
   rw [e9] at h9
   have eqk : (k : Int).tdiv 32 = ((k / 32 : Nat) : Int) := by rw [Int.tdiv_eq_ediv_of_nonneg (by omega)]; omega
   have eqm : (k : Int).tmod 32 = ((k % 32 : Nat) : Int) := by rw [Int.tmod_eq_emod_of_nonneg (by omega)]; omega
   have tq : ((k : Int) / 32).toNat = k / 32 := by omega
   have tm : ((k : Int) % 32).toNat = k % 32 := by omega
   have wp : IntKind.u32.wrap (2 ^ (k % 32)) = 2 ^ (k % 32) := by have := pow2_pos (k % 32); exact wrap_u32s (by omega) hS.or.2.2
   have hs := sbound hd hna hN (show k ≤ N by omega)
   have bs : Bg j ((d * 2 ^ k : Nat) : Int) := hs
   have ls := bs.len32
   have es : ((d * 2 ^ k : Nat) : Int) = (d : Int) * 2 ^ k := by rw [Int.natCast_mul, pow2_cast]
   refine .skip ?_
   refine hK10 _ ?_
   refine .sq fun K12 hK12 => ?_
   refine .block ?_
   refine .sq fun K13 hK13 => ?_
   refine .region ?_
   refine .kf 2 (l1LeftI d k (by omega) (by omega)) hb236 ?_ (by simp (disch := first|omega|(simp only[ln];omega)) [List.take_succ_cons, List.take_zero, h1, h9]; rfl) (ha := by simp (disch := first|omega|(simp only[ln];omega)) [idf_Wd', h1, h9])
   refine .e ?_ (by simp (disch := first|omega|(simp only[ln];omega)) [h1, h9]; rfl)
   refine hK13 _ ?_
   refine .sq fun K14 hK14 => ?_
   refine .region ?_
   refine .kf 2 (l1CmpAbs_fc (dg R) (dg ((d * 2 ^ k : Nat) : Int)) (by omega) (by omega)) hb250 ?_ (by simp (disch := first|omega|(simp only[ln];omega)) [List.take_succ_cons, List.take_zero, h8]; rfl) (ha := by simp (disch := first|omega|(simp only[ln];omega)) [idf_Wd', h8])
   refine .e ?_ (by simp (disch := first|omega|(simp only[ln];omega)) [h8]; rfl)
   refine hK14 _ ?_
   refine .c (fun h35 => ?_) (fun h35 => ?_)
   ·try simp only[dc]at h35
    have hle : (d : Int) * 2 ^ k ≤ R := by
      have := cmpS_dg R ((d * 2 ^ k : Nat) : Int)
      rw [es] at this
      have hp := pow2_pos k
      have : 0 ≤ (d : Int) * 2 ^ k := Int.mul_nonneg (by omega) (by omega)
      omega
    have hsub := subS_spec (dg_dig R) (dg_dig ((d * 2 ^ k : Nat) : Int)) (dg_len_mono (by rw [es]; omega)) (by rw [dg_val, dg_val, es]; omega)
    rw [dg_val, dg_val] at hsub
    have hT := l1Trim_fc false (subS (dg R) (dg ((d * 2 ^ k : Nat) : Int))) (by omega) hsub.1
    rw [hsub.2.2, sg_false, es] at hT
    rw [show (R.natAbs : Int) - (((d : Int) * 2 ^ k).natAbs : Int) = R - (d : Int) * 2 ^ k from by omega] at hT
    refine .sq fun K15 hK15 => ?_
    refine AWP.region ?_
    refine AOPS.runk 2 (by simp (disch := first|omega|(simp only[ln];omega)) [List.take_succ_cons, List.take_zero, h8]; rfl) ?_
    simp only [List.drop_succ_cons, List.drop_zero]
    refine AOPS.fcall (l1SubAbs_fc (dg R) (dg ((d * 2 ^ k : Nat) : Int)) (by omega) (dg_dig _) (dg_dig _)) rfl rfl rfl hb247 (by simp [h8, idf_Wd']) (by simp) (by simp) ?_
    simp only [puts_some]
    refine AOPS.fcall hT rfl rfl rfl hb235 (by simp) (by simp) (by simp) ?_
    simp only [puts_some]
    refine AOPS.opval (Wd .u32 (dg (R - (d : Int) * 2 ^ k))) (fld_numS _) (by simp) (by simp) ?_
    simp only [puts_some]
    refine AOPS.all (by simp; rfl) ?_
    refine hK15 _ ?_
    refine .r ?_ (by simp (disch := first|omega|(simp only[ln];omega)) [idx_WdD (P := Tryz.prog) elT125 szT271, if_pos, h7, h9, hH, hq, eqk, eqm, ld_ip agT271, hS.or.1, IntKind.bits]; rfl)
    refine hK12 _ ?_
    refine .r ?_ (by simp (disch := first|omega|(simp only[ln];omega)) [h9]; rfl)
    refine ⟨k, by omega, k, id, q.set (k / 32) (gt q (k / 32) + 2 ^ (k % 32)), R - (d : Int) * 2 ^ k, rfl, by omega, hS.take hle (by omega), by simp [hq], by omega, by simp [h1], by simp [h7], by simp, by simp [h9], by simp [tq, tm, wp, hS.or.1], by simpa using hid, rfl⟩
   ·try simp only[dc]at h35
    have hlt : R < (d : Int) * 2 ^ k := by
      have := cmpS_dg R ((d * 2 ^ k : Nat) : Int)
      rw [es] at this
      have hp := pow2_pos k
      have : 0 ≤ (d : Int) * 2 ^ k := Int.mul_nonneg (by omega) (by omega)
      omega
    refine .skip ?_
    refine hK12 _ ?_
    refine .r ?_ (by simp (disch := first|omega|(simp only[ln];omega)) [h9]; rfl)
    refine ⟨k, by omega, k, id, q, R, rfl, by omega, hS.skip hlt, hq, hR, by simp [h1], by simp [h7], by simp [h8], by simp [h9], by simp [hH], by simpa using hid, rfl⟩
  ·try simp only[dc]at h26
   obtain rfl : n = 0 := by omega
   obtain ⟨hd1, hd2⟩ := hS.done
   have hT := l1Trim_fc false q (by omega) hS.dig
   rw [sg_false, hd1] at hT
   rw [hd2] at h8
   refine .exit ?_
   refine hK8 _ ?_
   refine .sq fun K16 hK16 => ?_
   refine AWP.region ?_
   refine AOPS.runk 1 (by simp (disch := first|omega|(simp only[ln];omega)) [List.take_succ_cons, List.take_zero, h7, h8]; rfl) ?_
   simp only [List.drop_succ_cons, List.drop_zero]
   refine AOPS.frz1 55 id 1 (wd .u32 q) (Wd .u32 q) (by simp [hH]) (by simp [h7, ← hq]; first | exact fz_wd rfl | exact isl_take_wd (Nat.le_refl _)) ?_
   refine AOPS.fcall hT rfl rfl rfl hb235 (by simp) (by simp) (by simp) ?_
   simp only [puts_some]
   refine AOPS.opval (Wd .u32 (dg ((a / d : Nat) : Int))) (fld_numS _) (by simp) (by simp) ?_
   simp only [puts_some]
   refine AOPS.all (by simp (disch := first|omega|(simp only[ln];omega)) [List.take_succ_cons, List.take_zero, h7, h8]; rfl) ?_
   refine hK16 _ ?_
   refine .ret ?_
   exact hK _ _ _ _ trivial (Fin.m)
set_option maxHeartbeats 2000000 in
theorem l1Gcd_fc {j : Nat} (a b : Int) (ha : Bg j a) (hb : Bg j b) (hj : j ≤ 16777216) : FC Tryz.prog 179 [numS a, numS b] (numS ((Int.gcd a b : Nat) : Int)) := by
 refine .b Tryz.func179 26 (fun nx K hK => ?_)
 refine .q ?_
 refine .q ?_
 refine .q ?_
 refine .sq fun K4 hK4 => ?_
 refine .block ?_
 refine .loop (fun n s => ∃ x y : Nat, n = y ∧ Nat.gcd x y = Int.gcd a b ∧ Bg j x ∧ Bg j y ∧ s.env 4 = .ptr (nx + 1 + 1) 0 0 ∧ s.env 5 = Wd .u32 (dg (x : Int)) ∧ s.env 6 = Wd .u32 (dg (y : Int)) ∧ s.heap (nx + 1 + 1) = some (2, [[.bool false, .nsl]]) ∧ s.nt = 26) (b.natAbs) (⟨a.natAbs, b.natAbs, rfl, rfl, ha.abs, hb.abs, by simp, by simp [dg_abs], by simp [dg_abs], by simp, rfl⟩) ?_
 rintro n ⟨e, H, m, nt⟩ ⟨x, y, rfl, hg, bx, bY, h4, h5, h6, hH, rfl⟩
 simp only [] at h4 h5 h6 hH
 have lx := bx.len32
 have ly := bY.len32
 refine .sq fun K5 hK5 => ?_
 refine .q ?_ (by simp (disch := first|omega|(simp only[ln];omega)) [len_Wd (P := Tryz.prog) #[125] rfl elT125, h6]; rfl)
 refine .c (fun h15 => ?_) (fun h15 => ?_)
 ·try simp only[dc]at h15
  have hy : n ≠ 0 := fun h => by
    subst h
    simp [dg_zero] at h15
  refine .skip ?_
  refine hK5 _ ?_
  refine .block ?_
  refine .sq fun K7 hK7 => ?_
  refine .region ?_
  refine .kf 2 (l1DivAbs_fc x n hy bx bY hj) hb246 ?_ (by simp (disch := first|omega|(simp only[ln];omega)) [List.take_succ_cons, List.take_zero, h5, h6]; rfl) (ha := by simp (disch := first|omega|(simp only[ln];omega)) [idf_Wd', h5, h6])
  refine .e ?_ (by simp (disch := first|omega|(simp only[ln];omega)) [h5, h6]; rfl)
  refine hK7 _ ?_
  refine .r ?_ (by simp (disch := first|omega|(simp only[ln];omega)) [h6]; rfl)
  refine ⟨x % n, Nat.mod_lt _ (by omega), n, x % n, rfl, by rw [← hg, Nat.gcd_comm n, ← Nat.gcd_rec, Nat.gcd_comm], bY, bY.mod x (by omega), by simp [h4], by simp [h6], by simp, by simp [hH], rfl⟩
 ·try simp only[dc]at h15
  have hy : n = 0 := by
    have : (dg (n : Int)).length = 0 := by omega
    rw [dg_len0] at this; omega
  subst hy
  rw [Nat.gcd_zero_right] at hg
  have hT := l1Trim_fc false (dg (x : Int)) (by omega) (dg_dig _)
  rw [sg_false, dg_val, Int.natAbs_natCast, hg] at hT
  rw [hg] at h5
  refine .exit ?_
  refine hK4 _ ?_
  refine .sq fun K8 hK8 => ?_
  refine .region ?_
  refine .kf 1 hT hb235 ?_ (by simp (disch := first|omega|(simp only[ln];omega)) [List.take_succ_cons, List.take_zero, h4, h5, hH]; rfl) (ha := by simp (disch := first|omega|(simp only[ln];omega)) [idf_Wd', h4, h5, hH])
  refine .e ?_ (by simp (disch := first|omega|(simp only[ln];omega)) [h4, h5, hH]; rfl)
  refine hK8 _ ?_
  refine .ret ?_
  exact hK _ _ _ _ trivial (Fin.mk (by simp (disch := omega) [aRes, aResL, aRes1, h4]))
end

end Go.Proofs.YtaibemhdfhchfaaGreat

/- Walks: the quotient of 128 bits by 64. -/
namespace Go.Proofs.YtaibemhdfhchfaaGreat
open Go Go.RowKit
set_option linter.unusedSimpArgs false
set_option linter.unusedVariables false
set_option maxRecDepth 100000
attribute [local simp] szT3 byT3 agT3 unT3 zoT3 szT25 byT25 agT25 unT25 zoT25 szT204 byT204 agT204 unT204 zoT204

set_option maxHeartbeats 4000000 in
theorem div64_fc {hi lo y0 : Int} (h0 : 0 ≤ hi) (h1 : hi < y0) (hl0 : 0 ≤ lo) (hl : lo < 18446744073709551616) (hy : y0 < 18446744073709551616) : FC Tryz.prog 278 [.int .u64 hi, .int .u64 lo, .int .u64 y0] (.tup [.int .u64 ((hi * 18446744073709551616 + lo) / y0), .int .u64 ((hi * 18446744073709551616 + lo) % y0)]) := by
 obtain ⟨y, rfl⟩ := Int.eq_ofNat_of_zero_le (show 0 ≤ y0 by omega)
 obtain ⟨S, p, Y, U, X, hbl, hS, hp, hp0, hY, hYp, hY1, hY2, hhi0, hhi1, hor, hU0, hU, hX, hN⟩ := dv_norm h0 h1 hl0 hl (show y < 18446744073709551616 by omega)
 have hX0 : 0 ≤ X ∧ X < 18446744073709551616 := by omega
 have hwX : IntKind.u64.wrap (lo * 2 ^ S) = X := by rw [wrap_u64m, hX]
 have hmin : min S 64 = S := by omega
 have hmin2 : min (64 - S) 64 = 64 - S := by omega
 have w8 : (64 : Int) - (bitLen y : Int) = S := by omega
 have hyn : y ≠ 0 := by omega
 have c64 : (S : Int) ≤ 64 := by omega
 have w9 : ((64 : Int) - (S : Int)).toNat = 64 - S := by omega
 have f1 : (lo.fdiv (2 ^ (64 - S))) = lo / 2 ^ (64 - S) := Int.fdiv_eq_ediv_of_nonneg _ (Int.le_of_lt (pow2_pos _))
 refine .b Tryz.func278 135 (fun nx K hK => ?_)
 refine .q ?_
 refine .sq fun K2 hK2 => ?_
 refine .q ?_
 refine .c (fun h20 => ?_) (fun h20 => ?_)
 ·simp at h20; omega
 ·try simp only[dc]at h20
  refine .skip ?_
  refine hK2 _ ?_
  refine .sq fun K4 hK4 => ?_
  refine .q ?_
  refine .c (fun h24 => ?_) (fun h24 => ?_)
  ·simp at h24; omega
  ·try simp only[dc]at h24
   refine .skip ?_
   refine hK4 _ ?_
   refine .sq fun K6 hK6 => ?_
   refine .q ?_
   refine .c (fun h27 => ?_) (fun h27 => ?_)
   ·try simp only[dc]at h27
    have hi0 : hi = 0 := by simpa using h27
    subst hi0
    have tq1 : lo.tdiv (y : Int) = lo / y := Int.tdiv_eq_ediv_of_nonneg hl0
    have tq2 : lo.tmod (y : Int) = lo % y := Int.tmod_eq_emod_of_nonneg hl0
    have dn0 : 0 ≤ lo / (y : Int) := Int.ediv_nonneg hl0 (by omega)
    have dn1 : lo / (y : Int) ≤ lo := Int.ediv_le_self _ hl0
    have dn2 := Int.emod_nonneg lo (show (y : Int) ≠ 0 by omega)
    have dn3 := Int.emod_lt_of_pos lo h1
    refine .sq fun K8 hK8 => ?_
    refine .df 6 ?_ (by simp (disch := first|omega|(simp only[ln];omega)) [runDf.eq_def, runF1, runF2, stepF.eq_def, updo.eq_def, hupo.eq_def, opSto1.eq_def, tq1, tq2, hyn]; rfl)
    refine hK8 _ ?_
    refine .ret ?_
    exact hK _ _ _ _ trivial ((Fin.m).cast (by simp))
   ·try simp only[dc]at h27
    refine .skip ?_
    refine hK6 _ ?_
    refine .sq fun K9 hK9 => ?_
    refine .region ?_
    refine .kf 1 (lz64_fc y (by omega)) hb237 ?_ (by simp (disch := first|omega|(simp only[ln];omega)) [List.take_succ_cons, List.take_zero, w8]; rfl) (ha := by simp (disch := first|omega|(simp only[ln];omega)) [idf_Wd', w8])
    refine .e ?_ (by simp (disch := first|omega|(simp only[ln];omega)) [w8]; rfl)
    refine hK9 _ ?_
    refine .q ?_ (by simp (disch := first|omega|(simp only[ln];omega)) [hmin, hY, IntKind.bits]; rfl)
    refine .q ?_ (by simp (disch := first|omega|(simp only[ln];omega)) [IntKind.bits, Int.fdiv_eq_ediv_of_nonneg]; rfl)
    refine .q ?_ (by simp (disch := first|omega|(simp only[ln];omega)) [and_low32]; rfl)
    refine .q ?_ (by simp (disch := first|omega|(simp only[ln];omega)) [hmin, hmin2, w9, hor, f1, c64, IntKind.bits]; rfl)
    refine .q ?_ (by simp (disch := first|omega|(simp only[ln];omega)) [hmin, hwX, IntKind.bits]; rfl)
    refine .q ?_ (by simp (disch := first|omega|(simp only[ln];omega)) [IntKind.bits, Int.fdiv_eq_ediv_of_nonneg]; rfl)
    refine .q ?_ (by simp (disch := first|omega|(simp only[ln];omega)) [and_low32]; rfl)
    have hy1n : Y / 4294967296 ≠ 0 := by omega
    have eY : Y / 4294967296 * 4294967296 + Y % 4294967296 = Y := by omega
    have hD0 := DvH.start (y1 := Y / 4294967296) (y0 := Y % 4294967296) (u := U) (un := X / 4294967296) (by omega) (by omega) (by omega) hU0 (by omega) (by omega)
    have hd0 := hD0.q0
    have hd1 := hD0.qm
    have hd2 := hD0.r0
    have hd3 := hD0.e
    have tq : U.tdiv (Y / 4294967296) = U / (Y / 4294967296) := Int.tdiv_eq_ediv_of_nonneg hU0
    have dm := Int.emod_lt_of_pos U (show 0 < Y / 4294967296 by omega)
    have dm2 := Int.mul_ediv_add_emod U (Y / 4294967296)
    rw [Int.mul_comm] at dm2
    have w16 : IntKind.u64.wrap (U - IntKind.u64.wrap (U / (Y / 4294967296) * (Y / 4294967296))) = U - U / (Y / 4294967296) * (Y / 4294967296) := by simp only [wrap_u64m]; omega
    refine .q ?_ (by simp (disch := first|omega|(simp only[ln];omega)) [tq, hy1n]; rfl)
    refine .q ?_
    refine .sq fun K19 hK19 => ?_
    have J19 : ∀ s : St, (∃ q : Int, 0 ≤ q ∧ q < 4294967296 ∧ 0 ≤ (U) * 4294967296 + X / 4294967296 - q * Y ∧ (U) * 4294967296 + X / 4294967296 - q * Y < Y ∧ s.env 2 = .int .u64 Y ∧ s.env 8 = .int .u64 (S : Int) ∧ s.env 9 = .int .u64 (Y / 4294967296) ∧ s.env 10 = .int .u64 (Y % 4294967296) ∧ s.env 11 = .int .u64 U ∧ s.env 13 = .int .u64 (X / 4294967296) ∧ s.env 14 = .int .u64 (X % 4294967296) ∧ s.env 15 = .int .u64 q ∧ s.nt = 135) → K19 s := by
     rintro ⟨e, H, m, nt⟩ ⟨q1, q10, q11, k0, k1, g2, g8, g9, g10, g11, g13, g14, g15, rfl⟩
     simp only [] at g2 g8 g9 g10 g11 g13 g14 g15
     obtain ⟨R1, hR1⟩ : ∃ R1, U * 4294967296 + X / 4294967296 - q1 * Y = R1 := ⟨_, rfl⟩
     rw [hR1] at k0 k1
     have hR1' : IntKind.u64.wrap (IntKind.u64.wrap (IntKind.u64.wrap (U * 4294967296) + X / 4294967296) - IntKind.u64.wrap (q1 * Y)) = R1 := by
       simp only [wrap_u64m]; omega
     refine hK19 _ ?_
     refine .q ?_ (by simp (disch := first|omega|(simp only[ln];omega)) [g11, g13, g15, g2, hR1']; rfl)
     have hy1n : Y / 4294967296 ≠ 0 := by omega
     have eY : Y / 4294967296 * 4294967296 + Y % 4294967296 = Y := by omega
     have hD0 := DvH.start (y1 := Y / 4294967296) (y0 := Y % 4294967296) (u := R1) (un := X % 4294967296) (by omega) (by omega) (by omega) k0 (by omega) (by omega)
     have hd0 := hD0.q0
     have hd1 := hD0.qm
     have hd2 := hD0.r0
     have hd3 := hD0.e
     have tq : R1.tdiv (Y / 4294967296) = R1 / (Y / 4294967296) := Int.tdiv_eq_ediv_of_nonneg k0
     have dm := Int.emod_lt_of_pos R1 (show 0 < Y / 4294967296 by omega)
     have dm2 := Int.mul_ediv_add_emod R1 (Y / 4294967296)
     rw [Int.mul_comm] at dm2
     have w16 : IntKind.u64.wrap (R1 - IntKind.u64.wrap (R1 / (Y / 4294967296) * (Y / 4294967296))) = R1 - R1 / (Y / 4294967296) * (Y / 4294967296) := by simp only [wrap_u64m]; omega
     refine .q ?_ (by simp (disch := first|omega|(simp only[ln];omega)) [g9, tq, hy1n]; rfl)
     refine .q ?_ (by simp (disch := first|omega|(simp only[ln];omega)) [g9]; rfl)
     refine .sq fun K23 hK23 => ?_
     have J23 : ∀ s : St, (∃ q : Int, 0 ≤ q ∧ q < 4294967296 ∧ 0 ≤ (R1) * 4294967296 + X % 4294967296 - q * Y ∧ (R1) * 4294967296 + X % 4294967296 - q * Y < Y ∧ s.env 2 = .int .u64 Y ∧ s.env 8 = .int .u64 (S : Int) ∧ s.env 9 = .int .u64 (Y / 4294967296) ∧ s.env 10 = .int .u64 (Y % 4294967296) ∧ s.env 14 = .int .u64 (X % 4294967296) ∧ s.env 15 = .int .u64 q1 ∧ s.env 17 = .int .u64 R1 ∧ s.env 18 = .int .u64 q ∧ s.nt = 135) → K23 s := by
      clear g2 g8 g9 g10 g11 g13 g14 g15
      rintro ⟨e, H, m, nt⟩ ⟨q0, q00, q01, k2, k3, g2, g8, g9, g10, g14, g15, g17, g18, rfl⟩
      simp only [] at g2 g8 g9 g10 g14 g15 g17 g18
      obtain ⟨R0, hR0⟩ : ∃ R0, R1 * 4294967296 + X % 4294967296 - q0 * Y = R0 := ⟨_, rfl⟩
      rw [hR0] at k2 k3
      have hR0' : IntKind.u64.wrap (IntKind.u64.wrap (IntKind.u64.wrap (R1 * 4294967296) + X % 4294967296) - IntKind.u64.wrap (q0 * Y)) = R0 := by
        simp only [wrap_u64m]; omega
      have hf := dv_fin (N := hi * 18446744073709551616 + lo) (y := (y : Int)) (u := U) (un1 := X / 4294967296) (un0 := X % 4294967296) (q1 := q1) (q0 := q0) (R1 := R1) (R0 := R0) hp0 (by rw [← hYp]; exact hR1) (by rw [← hYp]; exact hR0) (by rw [hN]; omega) k2 (by rw [← hYp]; exact k3)
      have f2 : R0.fdiv (2 ^ S) = R0 / 2 ^ S := Int.fdiv_eq_ediv_of_nonneg _ (Int.le_of_lt (pow2_pos _))
      refine hK23 _ ?_
      refine .q ?_ (by simp (disch := first|omega|(simp only[ln];omega)) [g2, g8, g14, g15, g17, g18, hR0', hmin, IntKind.bits, f2]; rfl)
      refine .ret ?_
      exact hK _ _ _ _ trivial ((Fin.m).cast (by first | rw [hf.1, hf.2, hp] | skip))
     refine .block ?_
     refine .loop (fun n s => ∃ q r : Int, n = q.toNat ∧ DvH (Y / 4294967296) (Y % 4294967296) (R1) (X % 4294967296) q r ∧ r < 4294967296 ∧ s.env 2 = .int .u64 Y ∧ s.env 8 = .int .u64 (S : Int) ∧ s.env 9 = .int .u64 (Y / 4294967296) ∧ s.env 10 = .int .u64 (Y % 4294967296) ∧ s.env 14 = .int .u64 (X % 4294967296) ∧ s.env 15 = .int .u64 q1 ∧ s.env 17 = .int .u64 R1 ∧ s.env 18 = .int .u64 q ∧ s.env 16 = .int .u64 r ∧ s.nt = 135) (((R1) / (Y / 4294967296)).toNat) (⟨(R1) / (Y / 4294967296), (R1) - (R1) / (Y / 4294967296) * (Y / 4294967296), rfl, hD0, by omega, by simp [g2], by simp [g8], by simp [g9], by simp [g10], by simp [g14], by simp [g15], by simp, by simp, by simp [w16], rfl⟩) ?_
     rintro n ⟨e, H, m, nt⟩ ⟨q, r, rfl, hD, hr, g2, g8, g9, g10, g14, g15, g17, gq, gr, rfl⟩
     simp only [] at g2 g8 g9 g10 g14 g15 g17 gq gr
     have hr0 := hD.r0
     have hq0 := hD.q0
     have hqm := hD.qm
     refine .sq fun K25 hK25 => ?_
     refine .sq fun K26 hK26 => ?_
     by_cases hqB : 4294967296 ≤ q
     ·have c1 : decide (4294967296 ≤ q) = true := by simp; omega
      refine .r ?_ (by simp (disch := first|omega|(simp only[ln];omega)) [gq, c1]; rfl)
      refine hK26 _ ?_
      refine .c (fun h113 => ?_) (fun h113 => ?_)
      ·try simp only[dc]at h113
       have hq1 := hD.pos (by omega) (.inl hqB)
       have hst := hD.step (by omega) (by omega) (by omega) (by omega) (by omega) (.inl hqB)
       refine .skip ?_
       refine hK25 _ ?_
       refine .block ?_
       refine .q ?_ (by simp (disch := first|omega|(simp only[ln];omega)) [gq]; rfl)
       refine .q ?_ (by simp (disch := first|omega|(simp only[ln];omega)) [gr, g9]; rfl)
       refine .q ?_
       refine .c (fun h120 => ?_) (fun h120 => ?_)
       ·try simp only[dc]at h120
        have ho := hst.out (by omega) (by omega) (by omega) (by omega) (by omega) (by omega) (.inr ⟨by omega, by omega⟩)
        rw [eY] at ho
        refine .exit ?_
        refine J23 _ ?_
        exact ⟨q - 1, by omega, ho.2.2, ho.1, ho.2.1, by simp [g2], by simp [g8], by simp [g9], by simp [g10], by simp [g14], by simp [g15], by simp [g17], by simp [gq], rfl⟩
       ·try simp only[dc]at h120
        refine .skip ?_
        refine ⟨(q - 1).toNat, by omega, q - 1, r + Y / 4294967296, rfl, hst, by omega, by simp [g2], by simp [g8], by simp [g9], by simp [g10], by simp [g14], by simp [g15], by simp [g17], by simp, by simp, rfl⟩
      ·simp at h113
     ·have c1 : decide (4294967296 ≤ q) = false := by simp; omega
      have m1 : q * (Y % 4294967296) ≤ 4294967295 * 4294967295 := Int.mul_le_mul (by omega) (by omega) (by omega) (by omega)
      have m0 : 0 ≤ q * (Y % 4294967296) := Int.mul_nonneg (by omega) (by omega)
      refine .r ?_ (by simp (disch := first|omega|(simp only[ln];omega)) [gq, gr, g10, g14, c1]; rfl)
      refine hK26 _ ?_
      refine .c (fun h113 => ?_) (fun h113 => ?_)
      ·try simp only[dc]at h113
       have hq1 := hD.pos (by omega) (.inr (by omega))
       have hst := hD.step (by omega) (by omega) (by omega) (by omega) (by omega) (.inr (by omega))
       refine .skip ?_
       refine hK25 _ ?_
       refine .block ?_
       refine .q ?_ (by simp (disch := first|omega|(simp only[ln];omega)) [gq]; rfl)
       refine .q ?_ (by simp (disch := first|omega|(simp only[ln];omega)) [gr, g9]; rfl)
       refine .q ?_
       refine .c (fun h120 => ?_) (fun h120 => ?_)
       ·try simp only[dc]at h120
        have ho := hst.out (by omega) (by omega) (by omega) (by omega) (by omega) (by omega) (.inr ⟨by omega, by omega⟩)
        rw [eY] at ho
        refine .exit ?_
        refine J23 _ ?_
        exact ⟨q - 1, by omega, ho.2.2, ho.1, ho.2.1, by simp [g2], by simp [g8], by simp [g9], by simp [g10], by simp [g14], by simp [g15], by simp [g17], by simp [gq], rfl⟩
       ·try simp only[dc]at h120
        refine .skip ?_
        refine ⟨(q - 1).toNat, by omega, q - 1, r + Y / 4294967296, rfl, hst, by omega, by simp [g2], by simp [g8], by simp [g9], by simp [g10], by simp [g14], by simp [g15], by simp [g17], by simp, by simp, rfl⟩
      ·try simp only[dc]at h113
       have ho := hD.out (by omega) (by omega) (by omega) (by omega) (by omega) (by omega) (.inl ⟨by omega, by omega⟩)
       rw [eY] at ho
       refine .exit ?_
       refine J23 _ ?_
       exact ⟨q, by omega, ho.2.2, ho.1, ho.2.1, by simp [g2], by simp [g8], by simp [g9], by simp [g10], by simp [g14], by simp [g15], by simp [g17], by simp [gq], rfl⟩
    refine .block ?_
    refine .loop (fun n s => ∃ q r : Int, n = q.toNat ∧ DvH (Y / 4294967296) (Y % 4294967296) (U) (X / 4294967296) q r ∧ r < 4294967296 ∧ s.env 2 = .int .u64 Y ∧ s.env 8 = .int .u64 (S : Int) ∧ s.env 9 = .int .u64 (Y / 4294967296) ∧ s.env 10 = .int .u64 (Y % 4294967296) ∧ s.env 11 = .int .u64 U ∧ s.env 13 = .int .u64 (X / 4294967296) ∧ s.env 14 = .int .u64 (X % 4294967296) ∧ s.env 15 = .int .u64 q ∧ s.env 16 = .int .u64 r ∧ s.nt = 135) (((U) / (Y / 4294967296)).toNat) (⟨(U) / (Y / 4294967296), (U) - (U) / (Y / 4294967296) * (Y / 4294967296), rfl, hD0, by omega, by simp, by simp, by simp, by simp, by simp, by simp, by simp, by simp, by simp [w16], rfl⟩) ?_
    rintro n ⟨e, H, m, nt⟩ ⟨q, r, rfl, hD, hr, g2, g8, g9, g10, g11, g13, g14, gq, gr, rfl⟩
    simp only [] at g2 g8 g9 g10 g11 g13 g14 gq gr
    have hr0 := hD.r0
    have hq0 := hD.q0
    have hqm := hD.qm
    refine .sq fun K33 hK33 => ?_
    refine .sq fun K34 hK34 => ?_
    by_cases hqB : 4294967296 ≤ q
    ·have c1 : decide (4294967296 ≤ q) = true := by simp; omega
     refine .r ?_ (by simp (disch := first|omega|(simp only[ln];omega)) [gq, c1]; rfl)
     refine hK34 _ ?_
     refine .c (fun h78 => ?_) (fun h78 => ?_)
     ·try simp only[dc]at h78
      have hq1 := hD.pos (by omega) (.inl hqB)
      have hst := hD.step (by omega) (by omega) (by omega) (by omega) (by omega) (.inl hqB)
      refine .skip ?_
      refine hK33 _ ?_
      refine .block ?_
      refine .q ?_ (by simp (disch := first|omega|(simp only[ln];omega)) [gq]; rfl)
      refine .q ?_ (by simp (disch := first|omega|(simp only[ln];omega)) [gr, g9]; rfl)
      refine .q ?_
      refine .c (fun h85 => ?_) (fun h85 => ?_)
      ·try simp only[dc]at h85
       have ho := hst.out (by omega) (by omega) (by omega) (by omega) (by omega) (by omega) (.inr ⟨by omega, by omega⟩)
       rw [eY] at ho
       refine .exit ?_
       refine J19 _ ?_
       exact ⟨q - 1, by omega, ho.2.2, ho.1, ho.2.1, by simp [g2], by simp [g8], by simp [g9], by simp [g10], by simp [g11], by simp [g13], by simp [g14], by simp [gq], rfl⟩
      ·try simp only[dc]at h85
       refine .skip ?_
       refine ⟨(q - 1).toNat, by omega, q - 1, r + Y / 4294967296, rfl, hst, by omega, by simp [g2], by simp [g8], by simp [g9], by simp [g10], by simp [g11], by simp [g13], by simp [g14], by simp, by simp, rfl⟩
     ·simp at h78
    ·have c1 : decide (4294967296 ≤ q) = false := by simp; omega
     have m1 : q * (Y % 4294967296) ≤ 4294967295 * 4294967295 := Int.mul_le_mul (by omega) (by omega) (by omega) (by omega)
     have m0 : 0 ≤ q * (Y % 4294967296) := Int.mul_nonneg (by omega) (by omega)
     refine .r ?_ (by simp (disch := first|omega|(simp only[ln];omega)) [gq, gr, g10, g13, c1]; rfl)
     refine hK34 _ ?_
     refine .c (fun h78 => ?_) (fun h78 => ?_)
     ·try simp only[dc]at h78
      have hq1 := hD.pos (by omega) (.inr (by omega))
      have hst := hD.step (by omega) (by omega) (by omega) (by omega) (by omega) (.inr (by omega))
      refine .skip ?_
      refine hK33 _ ?_
      refine .block ?_
      refine .q ?_ (by simp (disch := first|omega|(simp only[ln];omega)) [gq]; rfl)
      refine .q ?_ (by simp (disch := first|omega|(simp only[ln];omega)) [gr, g9]; rfl)
      refine .q ?_
      refine .c (fun h85 => ?_) (fun h85 => ?_)
      ·try simp only[dc]at h85
       have ho := hst.out (by omega) (by omega) (by omega) (by omega) (by omega) (by omega) (.inr ⟨by omega, by omega⟩)
       rw [eY] at ho
       refine .exit ?_
       refine J19 _ ?_
       exact ⟨q - 1, by omega, ho.2.2, ho.1, ho.2.1, by simp [g2], by simp [g8], by simp [g9], by simp [g10], by simp [g11], by simp [g13], by simp [g14], by simp [gq], rfl⟩
      ·try simp only[dc]at h85
       refine .skip ?_
       refine ⟨(q - 1).toNat, by omega, q - 1, r + Y / 4294967296, rfl, hst, by omega, by simp [g2], by simp [g8], by simp [g9], by simp [g10], by simp [g11], by simp [g13], by simp [g14], by simp, by simp, rfl⟩
     ·try simp only[dc]at h78
      have ho := hD.out (by omega) (by omega) (by omega) (by omega) (by omega) (by omega) (.inl ⟨by omega, by omega⟩)
      rw [eY] at ho
      refine .exit ?_
      refine J19 _ ?_
      exact ⟨q, by omega, ho.2.2, ho.1, ho.2.1, by simp [g2], by simp [g8], by simp [g9], by simp [g10], by simp [g11], by simp [g13], by simp [g14], by simp [gq], rfl⟩

end Go.Proofs.YtaibemhdfhchfaaGreat

/- Walks: words moved up. -/
namespace Go.Proofs.YtaibemhdfhchfaaGreat
open Go Go.RowKit
set_option linter.unusedSimpArgs false
set_option linter.unusedVariables false
set_option maxRecDepth 100000
attribute [local simp] szT3 byT3 agT3 unT3 zoT3 szT25 byT25 agT25 unT25 zoT25 szT108 byT108 agT108 elT108 unT108 zoT108

set_option maxHeartbeats 2000000 in
theorem shifted_fo (w : List Int) (k : Nat) (dw : Dig 18446744073709551616 w) (hk : k ≤ 63) (hl : w.length ≤ 274877906944) : FO Tryz.prog 279 [Wd .u64 w, .int .i64 (k : Int)] 1 (wd .u64 (shW w (2 ^ k))) := by
 have hp1 : (1 : Int) ≤ 2 ^ k := by have := pow2_pos k; omega
 have c64 : (k : Int) ≤ 64 := by omega
 have hmin : min k 64 = k := by omega
 have hmin2 : min (64 - k) 64 = 64 - k := by omega
 have w9 : ((64 : Int) - (k : Int)).toNat = 64 - k := by omega
 have f1 : ∀ x : Int, x.fdiv (2 ^ (64 - k)) = x / 2 ^ (64 - k) := fun x => Int.fdiv_eq_ediv_of_nonneg _ (Int.le_of_lt (pow2_pos _))
 refine FO.body Tryz.func279 rfl (by simp [idfL, idf, idfLL_iff, idf_Wd']) (wd_pln _ _) 40 rfl fun nx K hK => ?_
 refine .q ?_
 refine .q ?_ (by simp (disch := first|omega|(simp only[ln];omega)) [if_pos, len_Wd (P := Tryz.prog) #[108] rfl elT108]; rfl)
 refine .sq fun K3 hK3 => ?_
 refine .q ?_ (by simp (disch := first|omega|(simp only[ln];omega)) [len_Wd (P := Tryz.prog) #[108] rfl elT108]; rfl)
 refine .block ?_
 have et0 : ((w.length : Int) + 1).toNat = w.length + 1 := by omega
 have hs0 : List.replicate (w.length + 1) (0 : Int) = shS w (2 ^ k) 0 := by simp [shS, shR, List.replicate_succ]
 refine .loop (fun n s => ∃ i id : Nat, n = w.length - i ∧ i ≤ w.length ∧ s.env 1 = .int .i64 (k : Int) ∧ s.env 5 = .osl id 0 (w.length + 1) ∧ s.env 12 = Wd .u64 w ∧ s.env 13 = .int .i64 (w.length : Int) ∧ s.env 14 = .int .i64 (i : Int) ∧ s.heap id = some (1, wd .u64 (shS w (2 ^ k) i)) ∧ id < s.nx ∧ s.nt = 40) (w.length) (⟨0, nx, by omega, by omega, by simp, by simp [et0], by simp, by simp, by simp, by simp [et0, hs0], by simp, rfl⟩) ?_
 rintro n ⟨e, H, m, nt⟩ ⟨i, id, rfl, hi, h1, h5, h12, h13, h14, hH, hid, rfl⟩
 simp only [] at h1 h5 h12 h13 h14 hH hid
 obtain ⟨r1, r2, r3, r4, r5⟩ := shR_spec dw hp1 i
 have hsl := shS_len dw hp1 hi
 have hsg := shS_gt dw hp1 i
 refine .q ?_ (by simp (disch := first|omega|(simp only[ln];omega)) [h13, h14]; rfl)
 refine .sq fun K6 hK6 => ?_
 refine .c (fun h15 => ?_) (fun h15 => ?_)
 ·try simp only[dc]at h15
  have hi' : i < w.length := by omega
  have gw := dw.gt (by omega) i
  obtain ⟨st1, st2⟩ := sh_step hk gw.1 gw.2 r3 r4
  have m0 : 0 ≤ gt w i * 2 ^ k := Int.mul_nonneg gw.1 (by omega)
  have e1 := shS_step dw hp1 hi'
  have hwm : IntKind.u64.wrap (gt w i * 2 ^ k) = gt w i * 2 ^ k % 18446744073709551616 := wrap_u64m _
  refine .skip ?_
  refine hK6 _ ?_
  refine .sq fun K7 hK7 => ?_
  refine .block ?_
  refine .q ?_ (by simp (disch := first|omega|(simp only[ln];omega)) [idx_WdD (P := Tryz.prog) elT108 szT25, if_pos, h12, h14, ld_ip agT25]; rfl)
  refine .sq fun K9 hK9 => ?_
  refine .df 9 ?_ (by simp (disch := first|omega|(simp only[ln];omega)) [runDf.eq_def, runF1, runF2, stepF.eq_def, updo.eq_def, hupo.eq_def, opSto1.eq_def, idx_WdD (P := Tryz.prog) elT108 szT25, if_pos, h1, h5, hH, hsl, hsg, hmin, IntKind.bits, hwm, st1]; rfl)
  refine hK9 _ ?_
  refine .q ?_ (by simp (disch := first|omega|(simp only[ln];omega)) [h1]; rfl)
  refine .c (fun h29 => ?_) (fun h29 => ?_)
  ·try simp only[dc]at h29
   refine .r ?_ (by simp (disch := first|omega|(simp only[ln];omega)) [idx_WdD (P := Tryz.prog) elT108 szT25, if_pos, h1, h5, hsl, w9, hmin2, f1, st2, IntKind.bits]; rfl)
   refine hK7 _ ?_
   refine .r ?_ (by simp (disch := first|omega|(simp only[ln];omega)) [h14]; rfl)
   refine ⟨w.length - (i + 1), by omega, i + 1, id, rfl, by omega, by simp [h1], by simp [h5], by simp [h12], by simp [h13], by simp (disch := omega) [h14], by simp [← e1], by simp; omega, rfl⟩
  ·try simp only[dc]at h29
   have hk0 : k = 0 := by omega
   have e0 := shS_step0 dw hp1 hi' (by rw [← st2]; subst hk0; simp; omega)
   refine .skip ?_
   refine hK7 _ ?_
   refine .r ?_ (by simp (disch := first|omega|(simp only[ln];omega)) [h14]; rfl)
   refine ⟨w.length - (i + 1), by omega, i + 1, id, rfl, by omega, by simp [h1], by simp [h5], by simp [h12], by simp [h13], by simp (disch := omega) [h14], by simp [← e0], by simp; omega, rfl⟩
 ·try simp only[dc]at h15
  obtain rfl : i = w.length := by omega
  refine .exit ?_
  refine hK3 _ ?_
  refine .q ?_ (by simp (disch := first|omega|(simp only[ln];omega)) [h5]; rfl)
  refine .ret ?_
  exact hK _ _ (id) _ _ trivial ((Fin.mk (r := .osl id 0 (w.length + 1)) (by simp [aRes, aResL, aRes1])).cast (by rw [wd_len, shW, hsl])) (by simp [hH, shW])

end Go.Proofs.YtaibemhdfhchfaaGreat

/- Walks: words trimmed in place. -/
namespace Go.Proofs.YtaibemhdfhchfaaGreat
open Go Go.RowKit
set_option linter.unusedSimpArgs false
set_option linter.unusedVariables false
set_option maxRecDepth 100000
attribute [local simp] szT3 byT3 agT3 unT3 zoT3 szT25 byT25 agT25 unT25 zoT25 szT108 byT108 agT108 elT108 unT108 zoT108

set_option maxHeartbeats 1000000 in
theorem trim_ac (l : List Int) (id N : Nat) (H : Heap) (nx : Nat) (hH : H id = some (1, wd .u64 l)) (hN : N ≤ l.length) (hl : l.length ≤ 1099511627776) : ACall Tryz.prog 240 [.osl id 0 N] H nx (fun r H' nx' => r = .osl id 0 (trimW (l.take N)).length ∧ H' = H ∧ nx ≤ nx') := by
 refine .b Tryz.func240 21 fun K hK => ?_
 refine .q ?_
 refine .sq fun K2 hK2 => ?_
 refine .block ?_
 refine .loop (fun n s => ∃ q, n = q ∧ q ≤ N ∧ trimW (l.take q) = trimW (l.take N) ∧ s.env 0 = .osl id 0 q ∧ s.heap = H ∧ nx ≤ s.nx ∧ s.nt = 21) (N) (⟨N, rfl, Nat.le_refl _, rfl, by simp, rfl, by simp, rfl⟩) ?_
 rintro n ⟨e, H2, m, nt⟩ ⟨q, rfl, hq, ht, h0, rfl, hm, rfl⟩
 simp only [] at h0 hm hH
 refine .sq fun K3 hK3 => ?_
 refine .sq fun K4 hK4 => ?_
 rcases Nat.eq_zero_or_pos n with rfl | hn0
 ·refine .r ?_ (by simp (disch := first|omega|(simp only[ln];omega)) [idx_WdD (P := Tryz.prog) elT108 szT25, if_pos, len_Wd (P := Tryz.prog) #[108] rfl elT108, h0, hH]; rfl)
  refine hK4 _ ?_
  refine .c (fun h14 => ?_) (fun h14 => ?_)
  ·simp at h14
  ·try simp only[dc]at h14
   refine .exit ?_
   refine hK2 _ ?_
   refine .q ?_ (by simp (disch := first|omega|(simp only[ln];omega)) [h0]; rfl)
   refine .ret ?_
   exact hK _ _ _ _ _ trivial (Fin.mk (r := .osl id 0 (trimW (l.take N)).length) (by simp [aRes, aResL, aRes1, ← ht, trimW])) (⟨rfl, rfl, hm⟩)
 ·obtain ⟨k, rfl⟩ : ∃ k, n = k + 1 := ⟨n - 1, by omega⟩
  have htk : l.take (k + 1) = l.take k ++ [gt l k] := take_succ_gt (by omega)
  refine .r ?_ (by simp (disch := first|omega|(simp only[ln];omega)) [idx_WdD (P := Tryz.prog) elT108 szT25, if_pos, len_Wd (P := Tryz.prog) #[108] rfl elT108, h0, hH, ld_ip agT25]; rfl)
  refine hK4 _ ?_
  refine .c (fun h14 => ?_) (fun h14 => ?_)
  ·try simp only[dc]at h14
   have hx : gt l k = 0 := by simpa using h14
   refine .skip ?_
   refine hK3 _ ?_
   refine .block ?_
   refine .r ?_ (by simp (disch := first|omega|(simp only[ln];omega)) [if_pos, len_Wd (P := Tryz.prog) #[108] rfl elT108, h0, hH]; rfl)
   refine ⟨k, by omega, k, rfl, by omega, ?_, by simp, rfl, hm, rfl⟩
   rw [← ht, htk, hx, trimW_concat_zero]
  ·try simp only[dc]at h14
   have hx : gt l k ≠ 0 := by simpa using h14
   refine .exit ?_
   refine hK2 _ ?_
   refine .q ?_ (by simp (disch := first|omega|(simp only[ln];omega)) [h0]; rfl)
   refine .ret ?_
   exact hK _ _ _ _ _ trivial (Fin.mk (r := .osl id 0 (trimW (l.take N)).length) (by simp [aRes, aResL, aRes1, ← ht, htk, trimW_concat_pos _ _ hx]; omega)) (⟨rfl, rfl, hm⟩)

end Go.Proofs.YtaibemhdfhchfaaGreat

/- Walks: the division of words. -/
namespace Go.Proofs.YtaibemhdfhchfaaGreat
open Go Go.RowKit
set_option linter.unusedSimpArgs false
set_option linter.unusedVariables false
set_option maxRecDepth 100000
attribute [local simp] szT3 byT3 agT3 unT3 zoT3 szT25 byT25 agT25 unT25 zoT25 szT108 byT108 agT108 elT108 unT108 zoT108

set_option maxHeartbeats 8000000 in
theorem divWords_fc (a d : Nat) (hd : d ≠ 0) (la : (mag (a : Int)).length ≤ 68719476736) (lb : (mag (d : Int)).length ≤ 68719476736) : FC Tryz.prog 238 [Wd .u64 (mag (a : Int)), Wd .u64 (mag (d : Int))] (.tup [Wd .u64 (mag ((a / d : Nat) : Int)), Wd .u64 (mag ((a % d : Nat) : Int))]) := by
 have da := mag_dig (a : Int)
 have dd := mag_dig (d : Int)
 have hcm := cmpI_mag (a : Int) (d : Int)
 rw [Int.natAbs_natCast, Int.natAbs_natCast] at hcm
 refine .b Tryz.func238 326 (fun nx K hK => ?_)
 refine .q ?_
 refine .sq fun K2 hK2 => ?_
 refine .sq fun K3 hK3 => ?_
 refine .region ?_
 refine .kf 2 (cmpWords_fc (mag (a : Int)) (mag (d : Int)) (by omega) (by omega)) hb172 ?_
 refine .e ?_
 refine hK3 _ ?_
 refine .c (fun h34 => ?_) (fun h34 => ?_)
 ·try simp only[dc]at h34
  have hlt : a < d := hcm.1.1 (by omega)
  refine .q ?_
  refine .ret ?_
  exact hK _ _ _ _ trivial (((Fin.mk (r := .tup [.nsl, Wd .u64 (mag (a : Int))]) (by simp [aRes, aResL, aRes1])).weak (r' := .tup [Wd .u64 [], Wd .u64 (mag (a : Int))]) (fun _ _ _ _ h => by
    obtain ⟨vs, rfl, u, r, e, h1, h2⟩ := h
    exact ⟨vs, rfl, u, r, e, nsl_Wd .u64 h1, h2⟩)).cast (by rw [Nat.div_eq_of_lt hlt, Nat.mod_eq_of_lt hlt, show ((0 : Nat) : Int) = 0 from rfl, mag_zero]))
 ·try simp only[dc]at h34
  have had : d ≤ a := by
    rcases Nat.lt_or_ge a d with h | h
    · have := hcm.1.2 h; omega
    · exact h
  have hlen : (mag (d : Int)).length ≤ (mag (a : Int)).length := mag_len_mono (by simpa using had)
  have hdl : (mag (d : Int)).length ≠ 0 := by rw [Ne, mag_len0]; omega
  refine .skip ?_
  refine hK2 _ ?_
  refine .q ?_ (by simp (disch := first|omega|(simp only[ln];omega)) [len_Wd (P := Tryz.prog) #[108] rfl elT108]; rfl)
  refine .sq fun K6 hK6 => ?_
  refine .q ?_
  refine .c (fun h39 => ?_) (fun h39 => ?_)
  ·try simp only[dc]at h39
   have h1l : (mag (d : Int)).length = 1 := by simp at h39; omega
   have hy := mag_one h1l
   have hyg := dd.gt (by omega) 0
   rw [hy] at hyg
   refine .q ?_ (by simp (disch := first|omega|(simp only[ln];omega)) [if_pos, len_Wd (P := Tryz.prog) #[108] rfl elT108]; rfl)
   refine .sq fun K9 hK9 => ?_
   refine .q ?_ (by simp (disch := first|omega|(simp only[ln];omega)) [len_Wd (P := Tryz.prog) #[108] rfl elT108]; rfl)
   refine .block ?_
   refine .loop (fun n s => ∃ (i : Nat) (out : List Int) (r : Int), n = i ∧ i ≤ (mag (a : Int)).length ∧ out.length = (mag (a : Int)).length ∧ Dig 18446744073709551616 out ∧ 0 ≤ r ∧ r < d ∧ val 18446744073709551616 ((mag (a : Int)).drop i) = d * val 18446744073709551616 (out.drop i) + r ∧ s.env 0 = Wd .u64 (mag (a : Int)) ∧ s.env 1 = Wd .u64 (mag (d : Int)) ∧ s.env 7 = .osl nx 0 (mag (a : Int)).length ∧ s.env 8 = .int .u64 r ∧ s.env 9 = .int .i64 ((i : Int) - 1) ∧ s.heap nx = some (1, wd .u64 out) ∧ s.nt = 326) ((mag (a : Int)).length) (⟨(mag (a : Int)).length, List.replicate (mag (a : Int)).length 0, 0, rfl, by omega, by simp, Dig.replicate _ (by omega) (by omega), by omega, by omega, by rw [List.drop_of_length_le (by omega), List.drop_of_length_le (by simp)]; simp [val], by simp, by simp, by simp, by simp, by simp, by simp, rfl⟩) ?_
   rintro n ⟨e, H, m, nt⟩ ⟨i, out, r, rfl, hi, ho, dO, hr0, hr, hv, g0, g1, g7, g8, g9, hH, rfl⟩
   simp only [] at g0 g1 g7 g8 g9 hH
   refine .sq fun K11 hK11 => ?_
   refine .q ?_ (by simp (disch := first|omega|(simp only[ln];omega)) [g9]; rfl)
   refine .c (fun h47 => ?_) (fun h47 => ?_)
   ·try simp only[dc]at h47
    obtain ⟨i, rfl⟩ : ∃ k, n = k + 1 := ⟨n - 1, by omega⟩
    have e9 : ((i + 1 : Nat) : Int) - 1 = i := by omega
    rw [e9] at g9
    have ga := da.gt (by omega) i
    have st := div1_step da dO (by omega) hr0 hr hv
    refine .skip ?_
    refine hK11 _ ?_
    refine .sq fun K13 hK13 => ?_
    refine .block ?_
    refine .old fun hold => ?_
    refine .d 15 ?_
    refine .k 10 (fun fs14 hfs14 => ?_) (by simp (disch := first|omega|(simp only[ln];omega)) [runDf.eq_def, runF1, runF2, stepF.eq_def, updo.eq_def, hupo.eq_def, opSto1.eq_def, List.take_succ_cons, List.take_zero, idx_WdD (P := Tryz.prog) elT108 szT25, if_pos, g0, g1, g7, g8, g9, hH, ho, hy, h1l, ld_ip agT25]; rfl)
    refine .f (div64_fc (hi := r) (lo := gt (mag (a : Int)) i) (y0 := d) hr0 hr ga.1 ga.2 (by omega)) hb278 ?_ (ha := by simp (disch := first|omega|(simp only[ln];omega)) [idf_Wd', idx_WdD (P := Tryz.prog) elT108 szT25, if_pos, g0, g1, g7, g8, g9, hH, ho, hy, h1l, ld_ip agT25])
    refine .k 2 (fun fs15 hfs15 => ?_) (by simp (disch := first|omega|(simp only[ln];omega)) [runDf.eq_def, runF1, runF2, stepF.eq_def, updo.eq_def, hupo.eq_def, opSto1.eq_def, List.take_succ_cons, List.take_zero, idx_WdD (P := Tryz.prog) elT108 szT25, if_pos, g0, g1, g7, g8, g9, hH, ho, hy, h1l, ld_ip agT25]; rfl)
    refine DP.runF1q (by simp (disch := first|omega|(simp only[ln];omega)) [runDf.eq_def, runF1, runF2, stepF.eq_def, updo.eq_def, hupo.eq_def, opSto1.eq_def, idx_WdD (P := Tryz.prog) elT108 szT25, if_pos, g0, g1, g7, g8, g9, hH, ho, hy, h1l, ld_ip agT25]; rfl) fun fq16 hfq16 => ?_
    replace hfq16 : fq16.q = [] := by rw [hfq16]; simp [qids, asksB, Op.operands, topId]
    simp only [updo]
    refine .k 1 (fun fs17 hfs17 => ?_) (by simp (disch := first|omega|(simp only[ln];omega)) [runDf.eq_def, runF1, runF2, stepF.eq_def, updo.eq_def, hupo.eq_def, opSto1.eq_def, List.take_succ_cons, List.take_zero, idx_WdD (P := Tryz.prog) elT108 szT25, if_pos, g0, g1, g7, g8, g9, hH, ho, hy, h1l, ld_ip agT25]; rfl)
    refine DQ.runG (m := 15) [13] (by simp only[ln, hfs14, hfs15, hfs17];omega) (by intro k f hk hex; simp only [List.mem_cons, List.not_mem_nil, or_false] at hex; rcases hex with rfl <;> (simp [List.getElem?_append, hfs14, hfs15, hfs17] at hk; subst hk; assumption)) _ _ _ (fun id q h j hj => by have := hold id q h; simp at hj; omega) (by kernel_rfl) rfl (by simp (disch := first|omega|(simp only[ln];omega)) [runDf.eq_def, runF1, runF2, stepF.eq_def, updo.eq_def, hupo.eq_def, opSto1.eq_def, idx_WdD (P := Tryz.prog) elT108 szT25, if_pos, g0, g1, g7, g8, g9, hH, ho, hy, h1l, ld_ip agT25]; rfl) ?_
    refine hK13 _ ?_
    refine .r ?_ (by simp (disch := first|omega|(simp only[ln];omega)) [g9]; rfl)
    refine ⟨i, by omega, i, out.set i ((r * 18446744073709551616 + gt (mag (a : Int)) i) / d), (r * 18446744073709551616 + gt (mag (a : Int)) i) % d, rfl, by omega, by simp [ho], dO.set _ st.1 st.2.1, st.2.2.1, st.2.2.2.1, st.2.2.2.2, by simp [g0], by simp [g1], by simp [g7], by simp, by simp [g9], by simp, rfl⟩
   ·try simp only[dc]at h47
    obtain rfl : n = 0 := by omega
    obtain ⟨f1, f2⟩ := div1_fin hr0 hr hv
    have hr1 : Dig 18446744073709551616 [r] := Dig.cons hr0 (by omega) (Dig.nil _)
    have t1 : trimW out = mag ((a / d : Nat) : Int) := by rw [mag_of dO, f1]
    have t2 : trimW [r] = mag ((a % d : Nat) : Int) := by rw [mag_of hr1]; simp only [val, Int.mul_zero, Int.add_zero]; rw [f2]
    refine .exit ?_
    refine hK9 _ ?_
    refine .sq fun K18 hK18 => ?_
    refine .region ?_
    refine .k 1 ?_ (by simp (disch := first|omega|(simp only[ln];omega)) [List.take_succ_cons, List.take_zero, g7, g8]; rfl)
    refine AOPS.frz1 65 nx 1 (wd .u64 out) (Wd .u64 out) (by simp [hH]) (by simp [g7, ← ho]; first | exact fz_wd rfl | exact isl_take_wd (Nat.le_refl _)) ?_
    refine .f (trim_fc out (by omega)) hb240 ?_ (ha := by simp (disch := first|omega|(simp only[ln];omega)) [idf_Wd', g7, g8])
    refine .k 2 ?_ (by simp (disch := first|omega|(simp only[ln];omega)) [List.take_succ_cons, List.take_zero, g7, g8]; rfl)
    refine AOPS.frz1 68 m 1 (wd .u64 [r]) (Wd .u64 [r]) (by simp) (by simp; first | exact fz_wd rfl | exact isl_take_wd (by simp)) ?_
    refine .f (trim_fc [r] (by simp)) hb240 ?_ (ha := by simp (disch := first|omega|(simp only[ln];omega)) [idf_Wd', g7, g8])
    refine .e ?_ (by simp (disch := first|omega|(simp only[ln];omega)) [g7, g8]; rfl)
    refine hK18 _ ?_
    refine .ret ?_
    exact hK _ _ _ _ trivial ((Fin.mk (r := .tup [Wd .u64 (trimW out), Wd .u64 (trimW [r])]) (by simp [aRes, aResL, aRes1])).cast (by rw [t1, t2]))
  ·try simp only[dc]at h39
   have h1l : (mag (d : Int)).length ≠ 1 := by simp at h39; omega
   obtain ⟨m, hm⟩ : ∃ m, (mag (d : Int)).length = m + 2 := ⟨(mag (d : Int)).length - 2, by omega⟩
   obtain ⟨t, k, p, Vl, ht, htB, hbl, hk, rfl, hp0, hVl, dV, lV, vV, tV, hVB, _, hK0⟩ := dw_init had hm
   obtain ⟨J, hJ⟩ : ∃ J, (mag (a : Int)).length = J + (m + 2) := ⟨(mag (a : Int)).length - (m + 2), by omega⟩
   rw [hJ, Nat.add_sub_cancel] at hK0
   obtain ⟨n, hn⟩ : ∃ n, n = m + 2 := ⟨_, rfl⟩
   have hp1 : (1 : Int) ≤ 2 ^ k := by omega
   have hsa := shS_len da hp1 (Nat.le_refl (mag (a : Int)).length)
   have hsd := shS_len dd hp1 (Nat.le_refl (mag (d : Int)).length)
   have hsa' : (shW (mag (a : Int)) (2 ^ k)).length = J + n + 1 := by unfold shW; omega
   have hsd' : (shW (mag (d : Int)) (2 ^ k)).length = n + 1 := by unfold shW; omega
   have x4 : TN (((n : Int) - 1).toNat) (m + 1) := TN.i (by omega)
   have x5 : TN (((n : Int) - 2).toNat) (m) := TN.i (by omega)
   have hdn : (mag (d : Int)).length = n := by omega
   have han : (mag (a : Int)).length = J + n := by omega
   have eJ : ((J + n : Nat) : Int) - (n : Int) = J := by omega
   have eJ2 : (J : Int) + (n : Int) - (n : Int) = J := by omega
   have eJ3 : TN (((J : Int) + 1).toNat) (J + 1) := TN.i (by omega)
   have wb : (64 : Int) - (bitLen t : Int) = k := by omega
   rw [← hn] at lV
   have hPm := powB_pos m
   have c64 : (k : Int) ≤ 64 := by omega
   have hmk : TN (min k 64) (k) := TN.i (by omega)
   have hmk2 : TN (min (64 - k) 64) (64 - k) := TN.i (by omega)
   have fdk : ∀ x : Int, x.fdiv (2 ^ k) = x / 2 ^ k := fun x => Int.fdiv_eq_ediv_of_nonneg _ (Int.le_of_lt hp0)
   refine .skip ?_
   refine hK6 _ ?_
   refine .sq fun K19 hK19 => ?_
   refine .region ?_
   refine .kf 5 (lz64_fc t htB) hb237 ?_ (by simp (disch := first|omega|(simp only[ln];omega)) [List.take_succ_cons, List.take_zero, idx_WdD (P := Tryz.prog) elT108 szT25, if_pos, hdn, x4.e, ht, wb, ld_ip agT25]; rfl) (ha := by simp (disch := first|omega|(simp only[ln];omega)) [idf_Wd', idx_WdD (P := Tryz.prog) elT108 szT25, if_pos, hdn, x4.e, ht, wb, ld_ip agT25])
   refine .e ?_ (by simp (disch := first|omega|(simp only[ln];omega)) [idx_WdD (P := Tryz.prog) elT108 szT25, if_pos, hdn, x4.e, ht, wb, ld_ip agT25]; rfl)
   refine hK19 _ ?_
   refine .sq fun K20 hK20 => ?_
   refine .d 8 ?_
   refine .k 2 (fun fs21 hfs21 => ?_) (by simp (disch := first|omega|(simp only[ln];omega)) [runDf.eq_def, runF1, runF2, stepF.eq_def, updo.eq_def, hupo.eq_def, opSto1.eq_def, List.take_succ_cons, List.take_zero, if_pos, hsa', hsd', wd_len]; rfl)
   refine DP.ocall (shifted_fo (mag (d : Int)) k dd hk (by omega)) rfl rfl rfl hb279 (by simp (disch := first|omega|(simp only[ln];omega)) [idf_Wd', hsa', hsd', wd_len]) (by simp (disch := first|omega|(simp only[ln];omega)) [hsa', hsd', wd_len]) (by simp) ?_
   simp only [updo]
   refine .k 4 (fun fs22 hfs22 => ?_) (by simp (disch := first|omega|(simp only[ln];omega)) [runDf.eq_def, runF1, runF2, stepF.eq_def, updo.eq_def, hupo.eq_def, opSto1.eq_def, List.take_succ_cons, List.take_zero, if_pos, hsa', hsd', wd_len]; rfl)
   refine DP.ocall (shifted_fo (mag (a : Int)) k da hk (by omega)) rfl rfl rfl hb279 (by simp (disch := first|omega|(simp only[ln];omega)) [idf_Wd', hsa', hsd', wd_len]) (by simp (disch := first|omega|(simp only[ln];omega)) [hsa', hsd', wd_len]) (by simp) ?_
   simp only [updo]
   refine .r 8 (by simp only[ln, hfs21, hfs22];omega) ?_ (by simp (disch := first|omega|(simp only[ln];omega)) [runDf.eq_def, runF1, runF2, stepF.eq_def, updo.eq_def, hupo.eq_def, opSto1.eq_def, if_pos, hsa', hsd', wd_len]; rfl)
   refine hK20 _ ?_
   refine AWP.frz1 11 (nx + 2) 1 (wd .u64 (shW (mag (d : Int)) (2 ^ k))) (Wd .u64 Vl) (by simp (disch := omega)) (by simp; rw [fz_wdt (by omega), hVl, hn]) ?_
   refine .q ?_ (by simp (disch := first|omega|(simp only[ln];omega)) [if_pos, len_Wd (P := Tryz.prog) #[108] rfl elT108, han, eJ, eJ2]; rfl)
   refine .sq fun K24 hK24 => ?_
   refine .q ?_ (by simp (disch := first|omega|(simp only[ln];omega)) [len_Wd (P := Tryz.prog) #[108] rfl elT108, han, eJ, eJ2]; rfl)
   refine .block ?_
   obtain ⟨iu, hiu⟩ : ∃ iu, iu = nx + 7 := ⟨_, rfl⟩
   obtain ⟨io, hio⟩ : ∃ io, io = nx + 10 := ⟨_, rfl⟩
   have hne : iu ≠ io := by omega
   refine .loop (fun N s => ∃ (j : Nat) (u out : List Int), N = j ∧ j ≤ J + 1 ∧ Kn ((a : Int) * 2 ^ k) ((d : Int) * 2 ^ k) u out j ∧ u.length = J + n + 1 ∧ out.length = J + 1 ∧ s.env 6 = .int .i64 (n : Int) ∧ s.env 10 = .int .i64 (k : Int) ∧ s.env 11 = Wd .u64 Vl ∧ s.env 12 = .osl iu 0 (J + n + 1) ∧ s.env 13 = .osl io 0 (J + 1) ∧ s.env 14 = .int .i64 ((j : Int) - 1) ∧ s.heap iu = some (1, wd .u64 u) ∧ s.heap io = some (1, wd .u64 out) ∧ s.nt = 326) (J + 1) (⟨J + 1, shW (mag (a : Int)) (2 ^ k), List.replicate (J + 1) 0, rfl, by omega, hK0, hsa', by simp, by simp, by simp, by simp, by simp (disch := omega) [hiu, hsa', wd_len], by simp (disch := omega) [hio, eJ3.e], by simp, by simp (disch := omega) [hiu], by simp (disch := omega) [hio, eJ3.e], rfl⟩) ?_
   clear hcm h34 had hlen hdl h39 h1l hm ht htB hbl tV hJ hsa hsd hsa' hsd' eJ eJ2 eJ3 wb hK0 lb hdn
   rintro N ⟨e, H, mm, nt⟩ ⟨j, u, out, rfl, hj, hKn, hul, hol, h6, h10, h11, h12, h13, h14, hU, hO, rfl⟩
   simp only [] at h6 h10 h11 h12 h13 h14 hU hO
   refine .sq fun K26 hK26 => ?_
   refine .q ?_ (by simp (disch := first|omega|(simp only[ln];omega)) [h14]; rfl)
   refine .c (fun h95 => ?_) (fun h95 => ?_)
   ·try simp only[dc]at h95
    obtain ⟨j, rfl⟩ : ∃ k, N = k + 1 := ⟨N - 1, by omega⟩
    have e14 : ((j + 1 : Nat) : Int) - 1 = j := by omega
    rw [e14] at h14
    have hz := hKn.top (n := n) (by rw [hn]; exact hVB)
    have hw := win_lt hKn.dig (j := j) (m := m) (by rw [← hn]; exact hz)
    have hwd := hKn.wide
    have tg := top_ge dV (m := m)
    rw [vV] at tg
    have g1 := hKn.dig.gt (by omega) (j + m + 2)
    have g2 := hKn.dig.gt (by omega) (j + m + 1)
    have g3 := hKn.dig.gt (by omega) (j + m)
    have gv1 := dV.gt (by omega) (m + 1)
    have gv2 := dV.gt (by omega) m
    have x1 : TN (((j : Int) + (n : Int)).toNat) (j + m + 2) := TN.i (by omega)
    have x2 : TN (((j : Int) + (n : Int) - 1).toNat) (j + m + 1) := TN.i (by omega)
    have x3 : TN (((j : Int) + (n : Int) - 2).toNat) (j + m) := TN.i (by omega)
    have x7 : TN (((j : Int) + (n : Int)).toNat) (j + n) := TN.i (by omega)
    have hjo : j < J + 1 := by omega
    have hW0 := val_nonneg (hKn.dig.drop j)
    refine .skip ?_
    refine hK26 _ ?_
    refine .sq fun K28 hK28 => ?_
    refine .block ?_
    refine .q ?_
    refine .sq fun K30 hK30 => ?_
    have J30 : ∀ s : St, (∃ q : Int, 0 ≤ q ∧ q < 18446744073709551616 ∧ val 18446744073709551616 (u.drop j) < (q + 1) * ((d : Int) * 2 ^ k) ∧ s.env 6 = .int .i64 (n : Int) ∧ s.env 10 = .int .i64 (k : Int) ∧ s.env 11 = Wd .u64 Vl ∧ s.env 12 = .osl iu 0 (J + n + 1) ∧ s.env 13 = .osl io 0 (J + 1) ∧ s.env 14 = .int .i64 (j : Int) ∧ s.env 15 = .int .u64 q ∧ s.heap iu = some (1, wd .u64 u) ∧ s.heap io = some (1, wd .u64 out) ∧ s.nt = 326) → K30 s := by
     clear h6 h10 h11 h12 h13 h14 hU hO hw hwd tg g1 g2 g3 gv1 gv2
     rintro ⟨e, H, mm, nt⟩ ⟨q, q0, qB, qlt, h6, h10, h11, h12, h13, h14, h15, hU, hO, rfl⟩
     simp only [] at h6 h10 h11 h12 h13 h14 h15 hU hO
     refine hK30 _ ?_
     refine .q ?_
     refine .sq fun K32 hK32 => ?_
     refine .q ?_ (by simp (disch := first|omega|(simp only[ln];omega)) [h6]; rfl)
     refine .block ?_
     refine .loop (fun N s => ∃ (i : Nat) (u1 : List Int) (br c : Int), N = n - i ∧ i ≤ n ∧ Win u u1 j n (-(q * val 18446744073709551616 (Vl.take i)) + (18446744073709551616 : Int) ^ i * (br + c)) ∧ 0 ≤ br ∧ br ≤ 1 ∧ 0 ≤ c ∧ c < 18446744073709551616 ∧ s.env 6 = .int .i64 (n : Int) ∧ s.env 10 = .int .i64 (k : Int) ∧ s.env 11 = Wd .u64 Vl ∧ s.env 12 = .osl iu 0 (J + n + 1) ∧ s.env 13 = .osl io 0 (J + 1) ∧ s.env 14 = .int .i64 (j : Int) ∧ s.env 15 = .int .u64 q ∧ s.env 20 = .int .u64 br ∧ s.env 21 = .int .u64 c ∧ s.env 175 = .int .i64 (n : Int) ∧ s.env 176 = .int .i64 (i : Int) ∧ s.heap iu = some (1, wd .u64 u1) ∧ s.heap io = some (1, wd .u64 out) ∧ s.nt = 326) (n) (⟨0, u, 0, 0, by omega, by omega, (Win.refl hKn.dig j n).cast (by simp [val]), by omega, by omega, by omega, by omega, by simp [h6], by simp [h10], by simp [h11], by simp [h12], by simp [h13], by simp [h14], by simp [h15], by simp, by simp, by simp, by simp, by simp (disch := omega) [hU], by simp (disch := omega) [hO], rfl⟩) ?_
     clear h6 h10 h11 h12 h13 h14 h15 hU hO
     rintro N ⟨e, H, mm, nt⟩ ⟨i, u1, br, c, rfl, hi, w, br0, br1, c0, cB, h6, h10, h11, h12, h13, h14, h15, h20, h21, h175, h176, hU, hO, rfl⟩
     simp only [] at h6 h10 h11 h12 h13 h14 h15 h20 h21 h175 h176 hU hO
     have hu1 : u1.length = J + n + 1 := w.len.trans hul
     refine .q ?_ (by simp (disch := first|omega|(simp only[ln];omega)) [h175, h176]; rfl)
     refine .sq fun K35 hK35 => ?_
     refine .c (fun h177 => ?_) (fun h177 => ?_)
     ·try simp only[dc]at h177
      have hi' : i < n := by omega
      have ws := win_sub w hi (by omega) dV q0 qB br0 br1 c0 cB
      have gvi := dV.gt (by omega) i
      have gui := w.dig.gt (by omega) (j + i)
      have x6 : TN (((j : Int) + (i : Int)).toNat) (j + i) := TN.i (by omega)
      have wm0 := ws.1
      have wm1 := ws.2.1
      have wm2 := ws.2.2.1
      refine .skip ?_
      refine hK35 _ ?_
      refine .sq fun K36 hK36 => ?_
      refine .block ?_
      refine .q ?_ (by simp (disch := first|omega|(simp only[ln];omega)) [h176]; rfl)
      refine .sq fun K38 hK38 => ?_
      refine .region ?_
      refine .kf 5 (mul64_fc q (gt Vl i) q0 qB gvi.1 gvi.2) hb168 ?_ (by simp (disch := first|omega|(simp only[ln];omega)) [List.take_succ_cons, List.take_zero, idx_WdD (P := Tryz.prog) elT108 szT25, if_pos, h11, h15, lV, ld_ip agT25]; rfl) (ha := by simp (disch := first|omega|(simp only[ln];omega)) [idf_Wd', idx_WdD (P := Tryz.prog) elT108 szT25, if_pos, h11, h15, lV, ld_ip agT25])
      refine .e ?_ (by simp (disch := first|omega|(simp only[ln];omega)) [idx_WdD (P := Tryz.prog) elT108 szT25, if_pos, h11, h15, lV, ld_ip agT25]; rfl)
      refine hK38 _ ?_
      refine .q ?_
      refine .sq fun K40 hK40 => ?_
      refine .region ?_
      refine .k 2 ?_ (by simp (disch := first|omega|(simp only[ln];omega)) [List.take_succ_cons, List.take_zero, h21]; rfl)
      refine .en (FE.add64 nb169 (q * gt Vl i % 18446744073709551616) c 0 (by omega) c0 (by omega) (by omega)) ?_ (ha := by simp (disch := first|omega|(simp only[ln];omega)) [idf_Wd', h21])
      refine .e ?_ (by simp (disch := first|omega|(simp only[ln];omega)) [h21]; rfl)
      refine hK40 _ ?_
      refine .q ?_
      refine .region ?_
      refine .k 12 ?_ (by simp (disch := first|omega|(simp only[ln];omega)) [List.take_succ_cons, List.take_zero, idx_WdD (P := Tryz.prog) elT108 szT25, if_pos, h12, h14, h20, hU, x6.e, hu1, ld_ip agT25]; rfl)
      refine .en (FE.sub64 nb241 (gt u1 (j + i)) ((q * gt Vl i % 18446744073709551616 + c) % 18446744073709551616) br gui.1 (Int.emod_nonneg _ (by omega)) (Int.emod_lt_of_pos _ (by omega)) br0 br1) ?_ (ha := by simp (disch := first|omega|(simp only[ln];omega)) [idf_Wd', idx_WdD (P := Tryz.prog) elT108 szT25, if_pos, h12, h14, h20, hU, x6.e, hu1, ld_ip agT25])
      refine .e ?_ (by simp (disch := first|omega|(simp only[ln];omega)) [idx_WdD (P := Tryz.prog) elT108 szT25, if_pos, h12, h14, h20, hU, x6.e, hu1, ld_ip agT25]; rfl)
      refine hK36 _ ?_
      refine .r ?_ (by simp (disch := first|omega|(simp only[ln];omega)) [h176]; rfl)
      refine ⟨n - (i + 1), by omega, i + 1, u1.set (j + i) ((gt u1 (j + i) - (q * gt Vl i % 18446744073709551616 + c) % 18446744073709551616 - br) % 18446744073709551616), _, _, rfl, by omega, ws.2.2.2, by split <;> omega, by split <;> omega, ws.2.1, ws.2.2.1, by simp [h6], by simp [h10], by simp [h11], by simp [h12], by simp [h13], by simp [h14], by simp [h15], by simp, by simp, by simp [h175], by simp (disch := omega) [h176], by simp (disch := omega) [hU], by simp (disch := omega) [hO], rfl⟩
     ·try simp only[dc]at h177
      have hin : i = n := by omega
      rw [hin, val_take_all (by omega), vV] at w
      have wl := win_sub_last w (by omega) br0 br1 c0 cB
      have gun := w.dig.gt (by omega) (j + n)
      refine .exit ?_
      refine hK32 _ ?_
      refine .sq fun K42 hK42 => ?_
      refine .region ?_
      refine .k 12 ?_ (by simp (disch := first|omega|(simp only[ln];omega)) [List.take_succ_cons, List.take_zero, idx_WdD (P := Tryz.prog) elT108 szT25, if_pos, h6, h12, h14, h20, h21, hU, x7.e, hu1, ld_ip agT25]; rfl)
      refine .en (FE.sub64 nb241 (gt u1 (j + n)) c br gun.1 c0 cB br0 br1) ?_ (ha := by simp (disch := first|omega|(simp only[ln];omega)) [idf_Wd', idx_WdD (P := Tryz.prog) elT108 szT25, if_pos, h6, h12, h14, h20, h21, hU, x7.e, hu1, ld_ip agT25])
      refine .e ?_ (by simp (disch := first|omega|(simp only[ln];omega)) [idx_WdD (P := Tryz.prog) elT108 szT25, if_pos, h6, h12, h14, h20, h21, hU, x7.e, hu1, ld_ip agT25]; rfl)
      refine hK42 _ ?_
      refine .sq fun K43 hK43 => ?_
      refine .block ?_
      refine .loop (fun N s => ∃ (q : Int) (u1 : List Int) (br : Int), N = q.toNat ∧ Win u u1 j n (-(q * ((d : Int) * 2 ^ k)) + (18446744073709551616 : Int) ^ (n + 1) * br) ∧ val 18446744073709551616 (u.drop j) < (q + 1) * ((d : Int) * 2 ^ k) ∧ 0 ≤ q ∧ q < 18446744073709551616 ∧ (br = 0 ∨ br = 1) ∧ s.env 6 = .int .i64 (n : Int) ∧ s.env 10 = .int .i64 (k : Int) ∧ s.env 11 = Wd .u64 Vl ∧ s.env 12 = .osl iu 0 (J + n + 1) ∧ s.env 13 = .osl io 0 (J + 1) ∧ s.env 14 = .int .i64 (j : Int) ∧ s.env 15 = .int .u64 q ∧ s.env 20 = .int .u64 br ∧ s.heap iu = some (1, wd .u64 u1) ∧ s.heap io = some (1, wd .u64 out) ∧ s.nt = 326) (q.toNat) (⟨q, u1.set (j + n) ((gt u1 (j + n) - c - br) % 18446744073709551616), (if gt u1 (j + n) < c + br then 1 else 0), rfl, wl, qlt, q0, qB, by split <;> simp, by simp [h6], by simp [h10], by simp [h11], by simp [h12], by simp [h13], by simp [h14], by simp [h15], by simp, by simp (disch := omega) [hU], by simp (disch := omega) [hO], rfl⟩) ?_
      clear h6 h10 h11 h12 h13 h14 h15 h20 h21 h175 h176 hU hO hu1 wl gun w qlt q0 qB
      rintro N ⟨e, H, mm, nt⟩ ⟨q, u1, br, rfl, w, qlt, q0, qB, hbr, h6, h10, h11, h12, h13, h14, h15, h20, hU, hO, rfl⟩
      simp only [] at h6 h10 h11 h12 h13 h14 h15 h20 hU hO
      have hu1 : u1.length = J + n + 1 := w.len.trans hul
      refine .sq fun K44 hK44 => ?_
      refine .q ?_ (by simp (disch := first|omega|(simp only[ln];omega)) [h20]; rfl)
      refine .c (fun h233 => ?_) (fun h233 => ?_)
      ·try simp only[dc]at h233
       have hb1 : br = 1 := by simpa using h233
       subst hb1
       rw [Int.mul_one] at w
       have wlt := w.lt hz
       have hneg : val 18446744073709551616 (u.drop j) < q * ((d : Int) * 2 ^ k) := by omega
       have hq1 : 1 ≤ q := by
         rcases Int.lt_or_le q 1 with h | h
         · have : q = 0 := by omega
           subst this; omega
         · exact h
       refine .skip ?_
       refine hK44 _ ?_
       refine .block ?_
       refine .q ?_ (by simp (disch := first|omega|(simp only[ln];omega)) [h15]; rfl)
       refine .q ?_
       refine .sq fun K48 hK48 => ?_
       refine .q ?_ (by simp (disch := first|omega|(simp only[ln];omega)) [h6]; rfl)
       refine .block ?_
       refine .loop (fun N s => ∃ (i : Nat) (u2 : List Int) (c : Int), N = n - i ∧ i ≤ n ∧ Win u u2 j n (-(q * ((d : Int) * 2 ^ k)) + (18446744073709551616 : Int) ^ (n + 1) + val 18446744073709551616 (Vl.take i) - (18446744073709551616 : Int) ^ i * c) ∧ 0 ≤ c ∧ c ≤ 1 ∧ s.env 6 = .int .i64 (n : Int) ∧ s.env 10 = .int .i64 (k : Int) ∧ s.env 11 = Wd .u64 Vl ∧ s.env 12 = .osl iu 0 (J + n + 1) ∧ s.env 13 = .osl io 0 (J + 1) ∧ s.env 14 = .int .i64 (j : Int) ∧ s.env 15 = .int .u64 (q - 1) ∧ s.env 20 = .int .u64 1 ∧ s.env 26 = .int .u64 c ∧ s.env 236 = .int .i64 (n : Int) ∧ s.env 237 = .int .i64 (i : Int) ∧ s.heap iu = some (1, wd .u64 u2) ∧ s.heap io = some (1, wd .u64 out) ∧ s.nt = 326) (n) (⟨0, u1, 0, by omega, by omega, w.cast (by simp [val]), by omega, by omega, by simp [h6], by simp [h10], by simp [h11], by simp [h12], by simp [h13], by simp [h14], by simp, by simp [h20], by simp, by simp, by simp, by simp (disch := omega) [hU], by simp (disch := omega) [hO], rfl⟩) ?_
       clear h6 h10 h11 h12 h13 h14 h15 h20 hU hO hu1
       rintro N ⟨e, H, mm, nt⟩ ⟨i, u2, c, rfl, hi, w2, c0, c1, h6, h10, h11, h12, h13, h14, h15, h20, h26, h236, h237, hU, hO, rfl⟩
       simp only [] at h6 h10 h11 h12 h13 h14 h15 h20 h26 h236 h237 hU hO
       have hu2 : u2.length = J + n + 1 := w2.len.trans hul
       refine .q ?_ (by simp (disch := first|omega|(simp only[ln];omega)) [h236, h237]; rfl)
       refine .sq fun K51 hK51 => ?_
       refine .c (fun h238 => ?_) (fun h238 => ?_)
       ·try simp only[dc]at h238
        have hi' : i < n := by omega
        have ws := win_add w2 hi (by omega) dV c0 c1
        have gvi := dV.gt (by omega) i
        have gui := w2.dig.gt (by omega) (j + i)
        have x6 : TN (((j : Int) + (i : Int)).toNat) (j + i) := TN.i (by omega)
        refine .skip ?_
        refine hK51 _ ?_
        refine .sq fun K52 hK52 => ?_
        refine .block ?_
        refine .q ?_ (by simp (disch := first|omega|(simp only[ln];omega)) [h237]; rfl)
        refine .old fun hold => ?_
        refine .d 20 ?_
        refine .k 15 (fun fs54 hfs54 => ?_) (by simp (disch := first|omega|(simp only[ln];omega)) [runDf.eq_def, runF1, runF2, stepF.eq_def, updo.eq_def, hupo.eq_def, opSto1.eq_def, List.take_succ_cons, List.take_zero, idx_WdD (P := Tryz.prog) elT108 szT25, if_pos, h11, h12, h14, h26, hU, x6.e, hu2, lV, ld_ip agT25]; rfl)
        refine DP.ecall (FE.add64 nb169 (gt u2 (j + i)) (gt Vl i) c gui.1 gvi.1 c0 c1) rfl rfl rfl (by simp (disch := first|omega|(simp only[ln];omega)) [idf_Wd', h11, h12, h14, h26, hU, x6.e, hu2, lV, ld_ip agT25]) (by simp (disch := first|omega|(simp only[ln];omega)) [h11, h12, h14, h26, hU, x6.e, hu2, lV, ld_ip agT25]) (by simp) ?_
        simp only [updo]
        refine .k 2 (fun fs55 hfs55 => ?_) (by simp (disch := first|omega|(simp only[ln];omega)) [runDf.eq_def, runF1, runF2, stepF.eq_def, updo.eq_def, hupo.eq_def, opSto1.eq_def, List.take_succ_cons, List.take_zero, idx_WdD (P := Tryz.prog) elT108 szT25, if_pos, h11, h12, h14, h26, hU, x6.e, hu2, lV, ld_ip agT25]; rfl)
        refine DP.runF1q (by simp (disch := first|omega|(simp only[ln];omega)) [runDf.eq_def, runF1, runF2, stepF.eq_def, updo.eq_def, hupo.eq_def, opSto1.eq_def, idx_WdD (P := Tryz.prog) elT108 szT25, if_pos, h11, h12, h14, h26, hU, x6.e, hu2, lV, ld_ip agT25]; rfl) fun fq56 hfq56 => ?_
        replace hfq56 : fq56.q = [] := by rw [hfq56]; simp [qids, asksB, Op.operands, topId]
        simp only [updo]
        refine .k 1 (fun fs57 hfs57 => ?_) (by simp (disch := first|omega|(simp only[ln];omega)) [runDf.eq_def, runF1, runF2, stepF.eq_def, updo.eq_def, hupo.eq_def, opSto1.eq_def, List.take_succ_cons, List.take_zero, idx_WdD (P := Tryz.prog) elT108 szT25, if_pos, h11, h12, h14, h26, hU, x6.e, hu2, lV, ld_ip agT25]; rfl)
        refine DQ.runG (m := 20) [18] (by simp only[ln, hfs54, hfs55, hfs57];omega) (by intro k f hk hex; simp only [List.mem_cons, List.not_mem_nil, or_false] at hex; rcases hex with rfl <;> (simp [List.getElem?_append, hfs54, hfs55, hfs57] at hk; subst hk; assumption)) _ _ _ (fun id q h j hj => by have := hold id q h; simp at hj; omega) (by kernel_rfl) rfl (by simp (disch := first|omega|(simp only[ln];omega)) [runDf.eq_def, runF1, runF2, stepF.eq_def, updo.eq_def, hupo.eq_def, opSto1.eq_def, idx_WdD (P := Tryz.prog) elT108 szT25, if_pos, h11, h12, h14, h26, hU, x6.e, hu2, lV, ld_ip agT25]; rfl) ?_
        refine hK52 _ ?_
        refine .r ?_ (by simp (disch := first|omega|(simp only[ln];omega)) [h237]; rfl)
        refine ⟨n - (i + 1), by omega, i + 1, u2.set (j + i) ((gt u2 (j + i) + gt Vl i + c) % 18446744073709551616), (gt u2 (j + i) + gt Vl i + c) / 18446744073709551616, rfl, by omega, ws.2.2, ws.1, ws.2.1, by simp [h6], by simp [h10], by simp [h11], by simp [h12], by simp [h13], by simp [h14], by simp [h15], by simp [h20], by simp, by simp [h236], by simp (disch := omega) [h237], by simp (disch := omega) [hU], by simp (disch := omega) [hO], rfl⟩
       ·try simp only[dc]at h238
        have hin : i = n := by omega
        rw [hin, val_take_all (by omega), vV] at w2
        have wl := win_add_last w2 (by omega) c0 c1
        have gun := w2.dig.gt (by omega) (j + n)
        have wl0 := wl.1
        have wl1 := wl.2.1
        refine .exit ?_
        refine hK48 _ ?_
        refine .sq fun K58 hK58 => ?_
        refine .region ?_
        refine .k 11 ?_ (by simp (disch := first|omega|(simp only[ln];omega)) [List.take_succ_cons, List.take_zero, idx_WdD (P := Tryz.prog) elT108 szT25, if_pos, h6, h12, h14, h26, hU, x7.e, hu2, ld_ip agT25]; rfl)
        refine .en (FE.add64 nb169 (gt u2 (j + n)) 0 c gun.1 (by omega) c0 c1) ?_ (ha := by simp (disch := first|omega|(simp only[ln];omega)) [idf_Wd', idx_WdD (P := Tryz.prog) elT108 szT25, if_pos, h6, h12, h14, h26, hU, x7.e, hu2, ld_ip agT25])
        refine .e ?_ (by simp (disch := first|omega|(simp only[ln];omega)) [idx_WdD (P := Tryz.prog) elT108 szT25, if_pos, h6, h12, h14, h26, hU, x7.e, hu2, ld_ip agT25]; rfl)
        refine hK58 _ ?_
        refine .r ?_ (by simp (disch := first|omega|(simp only[ln];omega)) [h20]; rfl)
        refine ⟨(q - 1).toNat, by omega, q - 1, u2.set (j + n) ((gt u2 (j + n) + c) % 18446744073709551616), 1 - (gt u2 (j + n) + c) / 18446744073709551616, rfl, wl.2.2.cast (ab_cast _ _ _ _), by rw [show q - 1 + 1 = q by omega]; exact hneg, by omega, by omega, by omega, by simp [h6], by simp [h10], by simp [h11], by simp [h12], by simp [h13], by simp [h14], by simp [h15], by simp, by simp (disch := omega) [hU], by simp (disch := omega) [hO], rfl⟩
      ·try simp only[dc]at h233
       have hb0 : br = 0 := by simp at h233; omega
       subst hb0
       rw [Int.mul_zero, Int.add_zero] at w
       refine .exit ?_
       refine hK43 _ ?_
       refine .r ?_ (by simp (disch := first|omega|(simp only[ln];omega)) [idx_WdD (P := Tryz.prog) elT108 szT25, if_pos, h13, h14, h15, hO, hol]; rfl)
       refine hK28 _ ?_
       refine .r ?_ (by simp (disch := first|omega|(simp only[ln];omega)) [h14]; rfl)
       refine ⟨j, by omega, j, u1, out.set j q, rfl, by omega, hKn.step (n := n) w q0 qB qlt (by omega), w.len.trans hul, by simp [hol], by simp [h6], by simp [h10], by simp [h11], by simp [h12], by simp [h13], by simp [h14], by simp (disch := omega) [hU], by simp (disch := omega) [hO], rfl⟩
    refine .sq fun K59 hK59 => ?_
    refine .df 12 ?_ (by simp (disch := first|omega|(simp only[ln];omega)) [runDf.eq_def, runF1, runF2, stepF.eq_def, updo.eq_def, hupo.eq_def, opSto1.eq_def, idx_WdD (P := Tryz.prog) elT108 szT25, if_pos, h6, h11, h12, h14, hU, x1.e, x4.e, lV, hul, ld_ip agT25]; rfl)
    refine hK59 _ ?_
    refine .c (fun h109 => ?_) (fun h109 => ?_)
    ·try simp only[dc]at h109
     have hQ0 := Qh.start hPm hw tg g1.1 h109 gv1.2 g2.1 g2.2 g3.2 gv2.1
     refine .q ?_
     refine .sq fun K61 hK61 => ?_
     refine .d 22 ?_
     refine .k 18 (fun fs62 hfs62 => ?_) (by simp (disch := first|omega|(simp only[ln];omega)) [runDf.eq_def, runF1, runF2, stepF.eq_def, updo.eq_def, hupo.eq_def, opSto1.eq_def, List.take_succ_cons, List.take_zero, idx_WdD (P := Tryz.prog) elT108 szT25, if_pos, h6, h11, h12, h14, hU, x1.e, x2.e, x4.e, lV, hul, ld_ip agT25]; rfl)
     refine .f (div64_fc (hi := gt u (j + m + 2)) (lo := gt u (j + m + 1)) (y0 := gt Vl (m + 1)) g1.1 h109 g2.1 g2.2 gv1.2) hb278 ?_ (ha := by simp (disch := first|omega|(simp only[ln];omega)) [idf_Wd', idx_WdD (P := Tryz.prog) elT108 szT25, if_pos, h6, h11, h12, h14, hU, x1.e, x2.e, x4.e, lV, hul, ld_ip agT25])
     refine .k 3 (fun fs63 hfs63 => ?_) (by simp (disch := first|omega|(simp only[ln];omega)) [runDf.eq_def, runF1, runF2, stepF.eq_def, updo.eq_def, hupo.eq_def, opSto1.eq_def, List.take_succ_cons, List.take_zero, idx_WdD (P := Tryz.prog) elT108 szT25, if_pos, h6, h11, h12, h14, hU, x1.e, x2.e, x4.e, lV, hul, ld_ip agT25]; rfl)
     refine .r 22 (by simp only[ln, hfs62, hfs63];omega) ?_ (by simp (disch := first|omega|(simp only[ln];omega)) [runDf.eq_def, runF1, runF2, stepF.eq_def, updo.eq_def, hupo.eq_def, opSto1.eq_def, idx_WdD (P := Tryz.prog) elT108 szT25, if_pos, h6, h11, h12, h14, hU, x1.e, x2.e, x4.e, lV, hul, ld_ip agT25]; rfl)
     refine hK61 _ ?_
     refine .block ?_
     refine .loop (fun N s => ∃ q r : Int, N = q.toNat ∧ Qh (val 18446744073709551616 (u.drop j)) ((d : Int) * 2 ^ k) (gt u (j + m + 2)) (gt u (j + m + 1)) (gt Vl (m + 1)) q r ∧ s.env 6 = .int .i64 (n : Int) ∧ s.env 10 = .int .i64 (k : Int) ∧ s.env 11 = Wd .u64 Vl ∧ s.env 12 = .osl iu 0 (J + n + 1) ∧ s.env 13 = .osl io 0 (J + 1) ∧ s.env 14 = .int .i64 (j : Int) ∧ s.env 15 = .int .u64 q ∧ s.env 16 = .int .u64 r ∧ s.heap iu = some (1, wd .u64 u) ∧ s.heap io = some (1, wd .u64 out) ∧ s.nt = 326) (((gt u (j + m + 2) * 18446744073709551616 + gt u (j + m + 1)) / gt Vl (m + 1)).toNat) (⟨_, _, rfl, hQ0, by simp [h6], by simp [h10], by simp [h11], by simp [h12], by simp [h13], by simp [h14], by simp, by simp, by simp (disch := omega) [hU], by simp (disch := omega) [hO], rfl⟩) ?_
     clear h6 h10 h11 h12 h13 h14 hU hO
     rintro N ⟨e, H, mm, nt⟩ ⟨q, r, rfl, hQ, h6, h10, h11, h12, h13, h14, h15, h16, hU, hO, rfl⟩
     simp only [] at h6 h10 h11 h12 h13 h14 h15 h16 hU hO
     have hq0 := hQ.q0
     have hqB := hQ.qB
     have hr0 := hQ.r0
     have hrB := hQ.rB
     have m0 : 0 ≤ q * gt Vl m := Int.mul_nonneg hq0 gv2.1
     refine .block ?_
     refine .sq fun K64 hK64 => ?_
     refine .region ?_
     refine .kf 6 (mul64_fc q (gt Vl m) hq0 hqB gv2.1 gv2.2) hb168 ?_ (by simp (disch := first|omega|(simp only[ln];omega)) [List.take_succ_cons, List.take_zero, idx_WdD (P := Tryz.prog) elT108 szT25, if_pos, h6, h11, h15, x5.e, lV, ld_ip agT25]; rfl) (ha := by simp (disch := first|omega|(simp only[ln];omega)) [idf_Wd', idx_WdD (P := Tryz.prog) elT108 szT25, if_pos, h6, h11, h15, x5.e, lV, ld_ip agT25])
     refine .e ?_ (by simp (disch := first|omega|(simp only[ln];omega)) [idx_WdD (P := Tryz.prog) elT108 szT25, if_pos, h6, h11, h15, x5.e, lV, ld_ip agT25]; rfl)
     refine hK64 _ ?_
     refine .sq fun K65 hK65 => ?_
     refine .sq fun K66 hK66 => ?_
     by_cases hA : q * gt Vl m / 18446744073709551616 < r
     ·have c1 : decide (q * gt Vl m / 18446744073709551616 < r) = true := by simp; omega
      refine .r ?_ (by simp (disch := first|omega|(simp only[ln];omega)) [idx_WdD (P := Tryz.prog) elT108 szT25, if_pos, h16, c1]; rfl)
      refine hK66 _ ?_
      refine .c (fun h160 => ?_) (fun h160 => ?_)
      ·try simp only[dc]at h160
       refine .exit ?_
       refine J30 _ ?_
       exact ⟨q, hq0, hqB, hQ.lt, by simp [h6], by simp [h10], by simp [h11], by simp [h12], by simp [h13], by simp [h14], by simp [h15], by simp (disch := omega) [hU], by simp (disch := omega) [hO], rfl⟩
      ·simp at h160
     ·have c1 : decide (q * gt Vl m / 18446744073709551616 < r) = false := by simp; omega
      by_cases hB : q * gt Vl m / 18446744073709551616 = r
      ·have c2 : (q * gt Vl m / 18446744073709551616 == r) = true := by simp [hB]
       refine .r ?_ (by simp (disch := first|omega|(simp only[ln];omega)) [idx_WdD (P := Tryz.prog) elT108 szT25, if_pos, h6, h12, h14, h16, hU, x3.e, hul, c1, c2, ld_ip agT25]; rfl)
       refine hK66 _ ?_
       refine .c (fun h160 => ?_) (fun h160 => ?_)
       ·try simp only[dc]at h160
        refine .exit ?_
        refine J30 _ ?_
        exact ⟨q, hq0, hqB, hQ.lt, by simp [h6], by simp [h10], by simp [h11], by simp [h12], by simp [h13], by simp [h14], by simp [h15], by simp (disch := omega) [hU], by simp (disch := omega) [hO], rfl⟩
       ·try simp only[dc]at h160
        refine .skip ?_
        refine hK65 _ ?_
        obtain ⟨s1, s2, s3⟩ := hQ.step hPm hw tg g3.1 (by omega)
        refine .q ?_ (by simp (disch := first|omega|(simp only[ln];omega)) [h15]; rfl)
        refine .q ?_
        refine .sq fun K69 hK69 => ?_
        refine .region ?_
        refine .k 6 ?_ (by simp (disch := first|omega|(simp only[ln];omega)) [List.take_succ_cons, List.take_zero, idx_WdD (P := Tryz.prog) elT108 szT25, if_pos, h6, h11, h16, x4.e, lV, ld_ip agT25]; rfl)
        refine .en (FE.add64 nb169 r (gt Vl (m + 1)) 0 hQ.r0 gv1.1 (by omega) (by omega)) ?_ (ha := by simp (disch := first|omega|(simp only[ln];omega)) [idf_Wd', idx_WdD (P := Tryz.prog) elT108 szT25, if_pos, h6, h11, h16, x4.e, lV, ld_ip agT25])
        refine .e ?_ (by simp (disch := first|omega|(simp only[ln];omega)) [idx_WdD (P := Tryz.prog) elT108 szT25, if_pos, h6, h11, h16, x4.e, lV, ld_ip agT25]; rfl)
        refine hK69 _ ?_
        refine .q ?_
        refine .c (fun h174 => ?_) (fun h174 => ?_)
        ·try simp only[dc]at h174
         refine .exit ?_
         refine J30 _ ?_
         exact ⟨q - 1, by omega, by omega, s2, by simp [h6], by simp [h10], by simp [h11], by simp [h12], by simp [h13], by simp [h14], by simp [h15], by simp (disch := omega) [hU], by simp (disch := omega) [hO], rfl⟩
        ·try simp only[dc]at h174
         have hlt : r + gt Vl (m + 1) < 18446744073709551616 := by simp at h174; omega
         refine .skip ?_
         refine ⟨(q - 1).toNat, by omega, q - 1, r + gt Vl (m + 1), rfl, ⟨s3, by omega, hlt, by omega, by omega, s2⟩, by simp [h6], by simp [h10], by simp [h11], by simp [h12], by simp [h13], by simp [h14], by simp, by simp [Int.emod_eq_of_lt (show 0 ≤ r + gt Vl (m + 1) by omega) hlt], by simp (disch := omega) [hU], by simp (disch := omega) [hO], rfl⟩
      ·have c2 : (q * gt Vl m / 18446744073709551616 == r) = false := by simp [hB]
       refine .r ?_ (by simp (disch := first|omega|(simp only[ln];omega)) [idx_WdD (P := Tryz.prog) elT108 szT25, if_pos, h16, c1, c2]; rfl)
       refine hK66 _ ?_
       refine .c (fun h160 => ?_) (fun h160 => ?_)
       ·simp at h160
       ·try simp only[dc]at h160
        refine .skip ?_
        refine hK65 _ ?_
        obtain ⟨s1, s2, s3⟩ := hQ.step hPm hw tg g3.1 (by omega)
        refine .q ?_ (by simp (disch := first|omega|(simp only[ln];omega)) [h15]; rfl)
        refine .q ?_
        refine .sq fun K73 hK73 => ?_
        refine .region ?_
        refine .k 6 ?_ (by simp (disch := first|omega|(simp only[ln];omega)) [List.take_succ_cons, List.take_zero, idx_WdD (P := Tryz.prog) elT108 szT25, if_pos, h6, h11, h16, x4.e, lV, ld_ip agT25]; rfl)
        refine .en (FE.add64 nb169 r (gt Vl (m + 1)) 0 hQ.r0 gv1.1 (by omega) (by omega)) ?_ (ha := by simp (disch := first|omega|(simp only[ln];omega)) [idf_Wd', idx_WdD (P := Tryz.prog) elT108 szT25, if_pos, h6, h11, h16, x4.e, lV, ld_ip agT25])
        refine .e ?_ (by simp (disch := first|omega|(simp only[ln];omega)) [idx_WdD (P := Tryz.prog) elT108 szT25, if_pos, h6, h11, h16, x4.e, lV, ld_ip agT25]; rfl)
        refine hK73 _ ?_
        refine .q ?_
        refine .c (fun h174 => ?_) (fun h174 => ?_)
        ·try simp only[dc]at h174
         refine .exit ?_
         refine J30 _ ?_
         exact ⟨q - 1, by omega, by omega, s2, by simp [h6], by simp [h10], by simp [h11], by simp [h12], by simp [h13], by simp [h14], by simp [h15], by simp (disch := omega) [hU], by simp (disch := omega) [hO], rfl⟩
        ·try simp only[dc]at h174
         have hlt : r + gt Vl (m + 1) < 18446744073709551616 := by simp at h174; omega
         refine .skip ?_
         refine ⟨(q - 1).toNat, by omega, q - 1, r + gt Vl (m + 1), rfl, ⟨s3, by omega, hlt, by omega, by omega, s2⟩, by simp [h6], by simp [h10], by simp [h11], by simp [h12], by simp [h13], by simp [h14], by simp, by simp [Int.emod_eq_of_lt (show 0 ≤ r + gt Vl (m + 1) by omega) hlt], by simp (disch := omega) [hU], by simp (disch := omega) [hO], rfl⟩
    ·try simp only[dc]at h109
     refine .skip ?_
     refine J30 _ ?_
     exact ⟨18446744073709551615, by omega, by omega, by omega, by simp [h6], by simp [h10], by simp [h11], by simp [h12], by simp [h13], by simp [h14], by simp, by simp (disch := omega) [hU], by simp (disch := omega) [hO], rfl⟩
   ·try simp only[dc]at h95
    obtain rfl : N = 0 := by omega
    obtain ⟨f1, f2⟩ := dw_fin hp0 hKn
    have hltn : val 18446744073709551616 u < (18446744073709551616 : Int) ^ n := by
      have := hKn.hi
      rw [List.drop_zero] at this
      rw [hn]; omega
    obtain ⟨M, hM⟩ : ∃ M, M = (trimW (u.take n)).length := ⟨_, rfl⟩
    have hMn : M ≤ n := by
      have := trimW_length (u.take n)
      rw [List.length_take] at this; omega
    refine .exit ?_
    refine hK24 _ ?_
    refine .sq fun K75 hK75 => ?_
    refine .region ?_
    refine .k 3 ?_ (by simp (disch := first|omega|(simp only[ln];omega)) [List.take_succ_cons, List.take_zero, if_pos, h6, h12, hU, hul]; rfl)
    refine .a (trim_ac u iu n _ _ (by simp [hU]) (by omega) (by omega)) hb240 ?_ (ha := by simp (disch := first|omega|(simp only[ln];omega)) [idf_Wd', if_pos, h6, h12, hU, hul])
    rintro _ H5 nx5 ⟨rfl, rfl, hnx5⟩
    rw [← hM]
    refine .e ?_ (by simp (disch := first|omega|(simp only[ln];omega)) [if_pos, h6, h12, hU, hul]; rfl)
    refine hK75 _ ?_
    refine .sq fun K76 hK76 => ?_
    refine .q ?_ (by simp (disch := first|omega|(simp only[ln];omega)) [len_Wd (P := Tryz.prog) #[108] rfl elT108, hU]; rfl)
    refine .block ?_
    refine .loop (fun N s => ∃ (i : Nat) (o : List Int), N = M - i ∧ i ≤ M ∧ o.length = J + n + 1 ∧ Dig 18446744073709551616 o ∧ (∀ x, x < i → gt o x = gt (trimW (u.take n)) x / 2 ^ k + gt (trimW (u.take n)) (x + 1) % 2 ^ k * 2 ^ (64 - k)) ∧ (∀ x, i ≤ x → x < M → gt o x = gt (trimW (u.take n)) x) ∧ s.env 10 = .int .i64 (k : Int) ∧ s.env 13 = .osl io 0 (J + 1) ∧ s.env 28 = .osl iu 0 M ∧ s.env 289 = .int .i64 (M : Int) ∧ s.env 290 = .int .i64 (i : Int) ∧ s.heap iu = some (1, wd .u64 o) ∧ s.heap io = some (1, wd .u64 out) ∧ s.nt = 326) (M) (⟨0, u, by omega, by omega, hul, hKn.dig, by intro x hx; omega, by intro x _ hx; rw [gt_trimW x (by omega), gt_take (by omega)], by simp [h10], by simp [h13], by simp, by simp, by simp, by simp (disch := omega) [hU], by simp (disch := omega) [hO], rfl⟩) ?_
    clear h6 h10 h11 h12 h13 h14 hU hO
    rintro N ⟨e, H, mm, nt⟩ ⟨i, o, rfl, hi, hol2, dO, hs1, hs2, h10, h13, h28, h289, h290, hU, hO, rfl⟩
    simp only [] at h10 h13 h28 h289 h290 hU hO
    refine .q ?_ (by simp (disch := first|omega|(simp only[ln];omega)) [h289, h290]; rfl)
    refine .sq fun K79 hK79 => ?_
    refine .c (fun h291 => ?_) (fun h291 => ?_)
    ·try simp only[dc]at h291
     have hi' : i < M := by omega
     have dT := (hKn.dig.take n).trim
     have gi := dT.gt (by omega) i
     have gi2 := dT.gt (by omega) (i + 1)
     have od := or_down (y := gt (trimW (u.take n)) (i + 1)) hk gi.1 gi.2
     have hoi := hs2 i (Nat.le_refl _) hi'
     have i1 : TN (((i : Int) + 1).toNat) (i + 1) := TN.i (by omega)
     refine .skip ?_
     refine hK79 _ ?_
     refine .sq fun K80 hK80 => ?_
     refine .block ?_
     refine .q ?_ (by simp (disch := first|omega|(simp only[ln];omega)) [h290]; rfl)
     refine .q ?_
     refine .sq fun K83 hK83 => ?_
     refine .sq fun K84 hK84 => ?_
     by_cases hiM : i + 1 < M
     ·have c1 : decide ((i : Int) + 1 < (M : Int)) = true := by simp; omega
      have c2 : True := trivial
      refine .r ?_ (by simp (disch := first|omega|(simp only[ln];omega)) [len_Wd (P := Tryz.prog) #[108] rfl elT108, h10, h28, hU, c1]; rfl)
      refine hK84 _ ?_
      refine .c (fun h301 => ?_) (fun h301 => ?_)
      ·try simp only[dc]at h301
       have hk0 : 0 < k := by omega
       have ho2 := hs2 (i + 1) (by omega) hiM
       have wl : IntKind.u64.wrap (gt (trimW (u.take n)) (i + 1) * 2 ^ (64 - k)) = gt (trimW (u.take n)) (i + 1) % 2 ^ k * 2 ^ (64 - k) := by rw [wrap_u64m, shl_low (by omega)]
       have w9 : TN (((64 : Int) - (k : Int)).toNat) (64 - k) := TN.i (by omega)
       have od1 := od.1
       refine .r ?_ (by simp (disch := first|omega|(simp only[ln];omega)) [idx_WdD (P := Tryz.prog) elT108 szT25, if_pos, h10, h28, hU, hol2, i1.e, ho2, w9.e, hmk2.e, wl, IntKind.bits, ld_ip agT25]; rfl)
       refine hK83 _ ?_
       refine .r ?_ (by simp (disch := first|omega|(simp only[ln];omega)) [idx_WdD (P := Tryz.prog) elT108 szT25, if_pos, h10, h28, hU, hol2, hoi, hmk.e, IntKind.bits, fdk, od1, ld_ip agT25]; rfl)
       refine hK80 _ ?_
       refine .r ?_ (by simp (disch := first|omega|(simp only[ln];omega)) [h290]; rfl)
       refine ⟨M - (i + 1), by omega, i + 1, o.set i (gt (trimW (u.take n)) i / 2 ^ k + gt (trimW (u.take n)) (i + 1) % 2 ^ k * 2 ^ (64 - k)), rfl, by omega, by simp [hol2], dO.set _ od.2.1 od.2.2, ?_, ?_, by simp [h10], by simp [h13], by simp [h28], by simp [h289], by simp (disch := omega) [h290], by simp, by simp (disch := omega) [hO], rfl⟩
       · intro x hx
         by_cases hxi : x = i
         · subst hxi; rw [gt_set (by omega)]
         · rw [gt_set_ne (by omega)]; exact hs1 x (by omega)
       · intro x hx hx2
         rw [gt_set_ne (by omega)]; exact hs2 x (by omega) hx2
      ·try simp only[dc]at h301
       have hk0 : k = 0 := by omega
       have hzz : gt (trimW (u.take n)) (i + 1) % 2 ^ k * 2 ^ (64 - k) = 0 := by subst hk0; simp
       have od1 := od.1
       rw [hzz, Int.add_zero] at od1
       refine .skip ?_
       refine hK83 _ ?_
       refine .r ?_ (by simp (disch := first|omega|(simp only[ln];omega)) [idx_WdD (P := Tryz.prog) elT108 szT25, if_pos, h10, h28, hU, hol2, hoi, hmk.e, IntKind.bits, fdk, od1, ld_ip agT25]; rfl)
       refine hK80 _ ?_
       refine .r ?_ (by simp (disch := first|omega|(simp only[ln];omega)) [h290]; rfl)
       refine ⟨M - (i + 1), by omega, i + 1, o.set i (gt (trimW (u.take n)) i / 2 ^ k + gt (trimW (u.take n)) (i + 1) % 2 ^ k * 2 ^ (64 - k)), rfl, by omega, by simp [hol2], dO.set _ od.2.1 od.2.2, ?_, ?_, by simp [h10], by simp [h13], by simp [h28], by simp [h289], by simp (disch := omega) [h290], by simp [hzz], by simp (disch := omega) [hO], rfl⟩
       · intro x hx
         by_cases hxi : x = i
         · subst hxi; rw [gt_set (by omega)]
         · rw [gt_set_ne (by omega)]; exact hs1 x (by omega)
       · intro x hx hx2
         rw [gt_set_ne (by omega)]; exact hs2 x (by omega) hx2
     ·have c1 : decide ((i : Int) + 1 < (M : Int)) = false := by simp; omega
      have c2 : True := trivial
      refine .r ?_ (by simp (disch := first|omega|(simp only[ln];omega)) [len_Wd (P := Tryz.prog) #[108] rfl elT108, h28, hU, c1]; rfl)
      refine hK84 _ ?_
      refine .c (fun h301 => ?_) (fun h301 => ?_)
      ·simp at h301
      ·try simp only[dc]at h301
       have hzz : gt (trimW (u.take n)) (i + 1) % 2 ^ k * 2 ^ (64 - k) = 0 := by rw [gt_ge (by omega), Int.zero_emod, Int.zero_mul]
       have od1 := od.1
       rw [hzz, Int.add_zero] at od1
       refine .skip ?_
       refine hK83 _ ?_
       refine .r ?_ (by simp (disch := first|omega|(simp only[ln];omega)) [idx_WdD (P := Tryz.prog) elT108 szT25, if_pos, h10, h28, hU, hol2, hoi, hmk.e, IntKind.bits, fdk, od1, ld_ip agT25]; rfl)
       refine hK80 _ ?_
       refine .r ?_ (by simp (disch := first|omega|(simp only[ln];omega)) [h290]; rfl)
       refine ⟨M - (i + 1), by omega, i + 1, o.set i (gt (trimW (u.take n)) i / 2 ^ k + gt (trimW (u.take n)) (i + 1) % 2 ^ k * 2 ^ (64 - k)), rfl, by omega, by simp [hol2], dO.set _ od.2.1 od.2.2, ?_, ?_, by simp [h10], by simp [h13], by simp [h28], by simp [h289], by simp (disch := omega) [h290], by simp [hzz], by simp (disch := omega) [hO], rfl⟩
       · intro x hx
         by_cases hxi : x = i
         · subst hxi; rw [gt_set (by omega)]
         · rw [gt_set_ne (by omega)]; exact hs1 x (by omega)
       · intro x hx hx2
         rw [gt_set_ne (by omega)]; exact hs2 x (by omega) hx2
    ·try simp only[dc]at h291
     have hin : i = M := by omega
     rw [hin] at hs1
     have hrd := rest_down (a := a) (d := d) (k := k) (n := n) hk hKn.dig (by omega) f2 hltn dO (by omega) (by rw [← hM]; exact hs1)
     rw [← hM] at hrd
     have t1 : trimW out = mag ((a / d : Nat) : Int) := by rw [mag_of hKn.dout, f1]
     refine .exit ?_
     refine hK76 _ ?_
     refine .sq fun K85 hK85 => ?_
     refine .region ?_
     refine .k 1 ?_ (by simp (disch := first|omega|(simp only[ln];omega)) [List.take_succ_cons, List.take_zero, h13, h28]; rfl)
     refine AOPS.frz1 322 io 1 (wd .u64 out) (Wd .u64 out) (by simp (disch := omega) [hO]) (by simp [h13, ← hol]; first | exact fz_wd rfl | exact isl_take_wd (Nat.le_refl _)) ?_
     refine .f (trim_fc out (by omega)) hb240 ?_ (ha := by simp (disch := first|omega|(simp only[ln];omega)) [idf_Wd', h13, h28])
     refine .k 1 ?_ (by simp (disch := first|omega|(simp only[ln];omega)) [List.take_succ_cons, List.take_zero, h13, h28]; rfl)
     refine AOPS.frz1 324 iu 1 (wd .u64 o) (Wd .u64 (o.take M)) (by simp (disch := omega) [hU]) (by simp [h28]; exact fz_wdt (by omega)) ?_
     refine .f (trim_fc (o.take M) (by simp; omega)) hb240 ?_ (ha := by simp (disch := first|omega|(simp only[ln];omega)) [idf_Wd', h13, h28])
     refine .e ?_ (by simp (disch := first|omega|(simp only[ln];omega)) [h13, h28]; rfl)
     refine hK85 _ ?_
     refine .ret ?_
     exact hK _ _ _ _ trivial ((Fin.mk (r := .tup [Wd .u64 (trimW out), Wd .u64 (trimW (o.take M))]) (by simp [aRes, aResL, aRes1])).cast (by rw [t1, hrd.2]))

end Go.Proofs.YtaibemhdfhchfaaGreat

/- Walks: the greatest common divisor. -/
namespace Go.Proofs.YtaibemhdfhchfaaGreat
open Go Go.RowKit
set_option linter.unusedSimpArgs false
set_option linter.unusedVariables false
set_option maxRecDepth 100000
attribute [local simp] szT3 byT3 agT3 unT3 zoT3 szT4 byT4 agT4 unT4 zoT4 szT25 byT25 agT25 unT25 zoT25 szT108 byT108 agT108 elT108 unT108 zoT108 szT110 byT110 agT110 flT110 fdT110_0 fdT110_1 zoT110 szT273 byT273 agT273 elT273 unT273 zoT273

section
attribute [local simp] idf_numI cells_numI numI_fold
set_option maxHeartbeats 2000000 in
theorem gcd_fc {j : Nat} (zs : List Int) (hz : ∀ z ∈ zs, Bg j z) (hj : j ≤ 68719476736) (hl : zs.length ≤ 1099511627776) : FC Tryz.prog 165 [.isl (zs.map numC)] (numI ((gcdL zs : Nat) : Int)) := by
 refine .b Tryz.func165 37 (fun nx K hK => ?_) (hi := by simp [idfL, idf, idfLL_iff, numC, idf_Wd'])
 refine .q ?_
 refine .q ?_
 refine .sq fun K3 hK3 => ?_
 refine .q ?_
 refine .block ?_
 refine .loop (fun N s => ∃ (i : Nat) (X : AV), N = zs.length - i ∧ i ≤ zs.length ∧ (X = .nsl ∧ i = 0 ∨ X = Wd .u64 (mag ((gcdL (zs.take i) : Nat) : Int))) ∧ s.env 2 = .ptr nx 0 0 ∧ s.env 3 = .ptr (nx + 1) 0 0 ∧ s.env 11 = .isl (zs.map numC) ∧ s.env 12 = .int .i64 (zs.length : Int) ∧ s.env 13 = .int .i64 (i : Int) ∧ s.heap nx = some (2, [[.bool false, .nsl]]) ∧ s.heap (nx + 1) = some (2, [[.bool false, X]]) ∧ nx + 1 < s.nx ∧ s.nt = 37) (zs.length) (⟨0, .nsl, by omega, by omega, .inl ⟨rfl, rfl⟩, by simp, by simp, by simp, by simp, by simp, by simp, by simp, by simp, rfl⟩) ?_
 rintro N ⟨e, H, mm, nt⟩ ⟨i, X, rfl, hi, hX, h2, h3, h11, h12, h13, hA, hB, hm, rfl⟩
 simp only [] at h2 h3 h11 h12 h13 hA hB hm
 refine .q ?_ (by simp (disch := first|omega|(simp only[ln];omega)) [h12, h13]; rfl)
 refine .sq fun K6 hK6 => ?_
 refine .c (fun h14 => ?_) (fun h14 => ?_)
 ·try simp only[dc]at h14
  have hi' : i < zs.length := by omega
  have hzi : zs[i]? = some (gt zs i) := gt_some hi'
  have hmem : gt zs i ∈ zs := List.mem_of_getElem? hzi
  have bz := hz _ hmem
  have bg := gcdL_bg zs hz i
  have hmi : (zs.map numC)[i]? = some (numC (gt zs i)) := by rw [List.getElem?_map, hzi]; rfl
  refine .skip ?_
  refine hK6 _ ?_
  refine .sq fun K7 hK7 => ?_
  refine .block ?_
  refine .q ?_ (by simp (disch := first|omega|(simp only[ln];omega)) [if_pos, h11, h13, hmi, numC, hm]; rfl)
  refine .sq fun K9 hK9 => ?_
  have hne : nx + 1 ≠ mm := by omega
  have hne2 : mm ≠ nx + 1 := by omega
  refine .df 4 ?_ (by simp (disch := first|omega|(simp only[ln];omega)) [runDf.eq_def, runF1, runF2, stepF.eq_def, updo.eq_def, hupo.eq_def, opSto1.eq_def, h3, hB, Nat.ne_of_lt hm, numC]; rfl)
  refine hK9 _ ?_
  refine .sq fun K10 hK10 => ?_
  refine .block ?_
  refine AWP.weakE 6 (Wd .u64 (mag ((gcdL (zs.take i) : Nat) : Int))) (by
    rcases hX with ⟨rfl, h0⟩ | rfl
    · simp only [upd_ap]; intro w β b v hv
      have hv' : VR w β b .nsl v := by simpa using hv
      have : mag ((gcdL (zs.take i) : Nat) : Int) = [] := by rw [h0]; exact mag_zero
      rw [this]; exact nsl_Wd .u64 hv'
    · intro w β b v hv; simpa [upd_ap] using hv) ?_
  refine .loop (fun N s => ∃ x y : Nat, N = y ∧ Nat.gcd x y = Nat.gcd (gcdL (zs.take i)) (gt zs i).natAbs ∧ Bg j x ∧ Bg j y ∧ s.env 2 = .ptr nx 0 0 ∧ s.env 3 = .ptr (nx + 1) 0 0 ∧ s.env 11 = .isl (zs.map numC) ∧ s.env 12 = .int .i64 (zs.length : Int) ∧ s.env 13 = .int .i64 (i : Int) ∧ s.env 6 = Wd .u64 (mag (x : Int)) ∧ s.env 7 = Wd .u64 (mag (y : Int)) ∧ s.heap nx = some (2, [[.bool false, .nsl]]) ∧ s.heap (nx + 1) = some (2, [[.bool false, X]]) ∧ nx + 1 < s.nx ∧ s.nt = 37) ((gt zs i).natAbs) (⟨gcdL (zs.take i), (gt zs i).natAbs, rfl, rfl, bg, bz.abs, by simp [h2], by simp [h3], by simp [h11], by simp [h12], by simp [h13], by simp, by simp [mag_abs], by simp (disch := omega) [hA], by simp (disch := omega) [hB], by simp; omega, rfl⟩) ?_
  clear h2 h3 h11 h12 h13 hA hB
  rintro N ⟨e, H, mm2, nt⟩ ⟨x, y, rfl, hg, bx, bY, h2, h3, h11, h12, h13, h6, h7, hA, hB, hm2, rfl⟩
  simp only [] at h2 h3 h11 h12 h13 h6 h7 hA hB hm2
  refine .sq fun K11 hK11 => ?_
  refine .q ?_ (by simp (disch := first|omega|(simp only[ln];omega)) [len_Wd (P := Tryz.prog) #[108] rfl elT108, h7]; rfl)
  refine .c (fun h23 => ?_) (fun h23 => ?_)
  ·try simp only[dc]at h23
   have hy : N ≠ 0 := fun h => by
     subst h
     simp [mag_zero] at h23
   refine .skip ?_
   refine hK11 _ ?_
   refine .block ?_
   refine .sq fun K13 hK13 => ?_
   refine .region ?_
   refine .kf 2 (divWords_fc x N hy (Nat.le_trans bx.len hj) (Nat.le_trans bY.len hj)) hb238 ?_ (by simp (disch := first|omega|(simp only[ln];omega)) [List.take_succ_cons, List.take_zero, h6, h7]; rfl) (ha := by simp (disch := first|omega|(simp only[ln];omega)) [idf_Wd', h6, h7])
   refine .e ?_ (by simp (disch := first|omega|(simp only[ln];omega)) [h6, h7]; rfl)
   refine hK13 _ ?_
   refine .region ?_
   refine .kf 2 (clone_fc (mag ((x % N : Nat) : Int)) (by have := (bY.mod x hy).len; omega)) hb239 ?_ (by simp (disch := first|omega|(simp only[ln];omega)) [List.take_succ_cons, List.take_zero, h7]; rfl) (ha := by simp (disch := first|omega|(simp only[ln];omega)) [idf_Wd', h7])
   refine .e ?_ (by simp (disch := first|omega|(simp only[ln];omega)) [h7]; rfl)
   refine ⟨x % N, Nat.mod_lt _ (by omega), N, x % N, rfl, by rw [← hg, Nat.gcd_comm N, ← Nat.gcd_rec, Nat.gcd_comm], bY, bY.mod x (by omega), by simp [h2], by simp [h3], by simp [h11], by simp [h12], by simp [h13], by simp [h7], by simp, by simp [hA], by simp [hB], by simpa using hm2, rfl⟩
  ·try simp only[dc]at h23
   have hy : N = 0 := by
     have : (mag (N : Int)).length = 0 := by omega
     rw [mag_len0] at this; omega
   subst hy
   rw [Nat.gcd_zero_right] at hg
   rw [hg] at h6
   refine .exit ?_
   refine hK10 _ ?_
   refine .r ?_ (by simp (disch := first|omega|(simp only[ln];omega)) [h3, h6, hB]; rfl)
   refine hK7 _ ?_
   refine .r ?_ (by simp (disch := first|omega|(simp only[ln];omega)) [h13]; rfl)
   have hgz := gcdL_succ zs hi'
   refine ⟨zs.length - (i + 1), by omega, i + 1, Wd .u64 (mag ((gcdL (zs.take (i + 1)) : Nat) : Int)), rfl, by omega, .inr rfl, by simp [h2], by simp [h3], by simp [h11], by simp [h12], by simp (disch := omega) [h13], by simp (disch := omega) [hA], by simp [hgz, ← hg], by simpa using hm2, rfl⟩
 ·try simp only[dc]at h14
  have hin : i = zs.length := by omega
  refine .exit ?_
  refine hK3 _ ?_
  refine .sq fun K14 hK14 => ?_
  rcases hX with ⟨rfl, h0⟩ | rfl
  ·have hz0 : zs = [] := List.length_eq_zero_iff.mp (by omega)
   refine .r ?_ (by simp (disch := first|omega|(simp only[ln];omega)) [h2, h3, hA, hB]; rfl)
   refine hK14 _ ?_
   refine .ret ?_
   exact hK _ _ _ _ trivial ((Fin.mk (r := .agg [.bool false, .nsl]) (by simp [aRes, aResL, aRes1, h2])).weak (by rw [hz0]; exact fun _ _ _ _ => num0_weak))
  ·rw [hin, List.take_length] at hB
   refine .r ?_ (by simp (disch := first|omega|(simp only[ln];omega)) [h2, h3, hA, hB]; rfl)
   refine hK14 _ ?_
   refine .ret ?_
   exact hK _ _ _ _ trivial ((Fin.mk (r := .agg [.bool false, Wd .u64 (mag ((gcdL zs : Nat) : Int))]) (by simp [aRes, aResL, aRes1, h2])).cast (by unfold numI; rw [decide_eq_false (by omega)]))
end

end Go.Proofs.YtaibemhdfhchfaaGreat

/- Walks: are points right?. -/
namespace Go.Proofs.YtaibemhdfhchfaaGreat
open Go Go.RowKit
set_option linter.unusedSimpArgs false
set_option linter.unusedVariables false
set_option maxRecDepth 100000
attribute [local simp] szT2 byT2 agT2 unT2 zoT2 szT4 byT4 agT4 unT4 zoT4 szT25 byT25 agT25 unT25 zoT25 szT27 byT27 agT27 flT27 fdT27_0 fdT27_1 fdT27_2 fdT27_3 zoT27 szT29 byT29 agT29 flT29 fdT29_0 fdT29_1 fdT29_2 zoT29 szT110 byT110 agT110 flT110 fdT110_0 fdT110_1 zoT110 szT112 byT112 agT112 flT112 fdT112_0 fdT112_1 fdT112_2 zoT112 szT125 byT125 agT125 elT125 unT125 zoT125 szT127 byT127 agT127 flT127 fdT127_0 fdT127_1 zoT127 szT129 byT129 agT129 flT129 fdT129_0 fdT129_1 fdT129_2 zoT129 szT271 byT271 agT271 unT271 zoT271

section
attribute [local simp] idf_numS cells_numS numS_fold idf_numI cells_numI numI_fold Pt.av Pt.cells wdI
set_option maxHeartbeats 1000000 in
theorem spot_fc (p : Pt) (hp : p.ok) : FC Tryz.prog 77 [p.av] (spA p.x.v p.y.v p.w.v) := by
 
 refine .b Tryz.func77 13 (fun nx K hK => ?_) (hr := by simp [idfL, idf, spA, spC, idf_Wd'])
 refine .q ?_
 refine .sq fun K2 hK2 => ?_
 refine .d 10 ?_
 refine .k 2 (fun fs3 hfs3 => ?_)
 refine .f (wideNum_fc p.x.a p.x.b p.x.c p.x.d hp.1.1 hp.1.2.1 hp.1.2.2.1 hp.1.2.2.2) hb166 ?_
 refine .k 2 (fun fs4 hfs4 => ?_)
 refine .f (wideNum_fc p.y.a p.y.b p.y.c p.y.d hp.2.1.1 hp.2.1.2.1 hp.2.1.2.2.1 hp.2.1.2.2.2) hb166 ?_
 refine .k 2 (fun fs5 hfs5 => ?_)
 refine .f (wideNum_fc p.w.a p.w.b p.w.c p.w.d hp.2.2.1 hp.2.2.2.1 hp.2.2.2.2.1 hp.2.2.2.2.2) hb166 ?_
 refine .k 1 (fun fs6 hfs6 => ?_)
 refine .r 10 (by simp only[ln, hfs3, hfs4, hfs5, hfs6];omega) ?_
 refine hK2 _ ?_
 refine .ret ?_
 exact hK _ _ _ _ trivial ((Fin.m).cast (by rfl))
end
section
attribute [local simp] idf_numS cells_numS numS_fold idf_numI cells_numI numI_fold l3A l3C
end

end Go.Proofs.YtaibemhdfhchfaaGreat

/- Walks: points made by the reference. -/
namespace Go.Proofs.YtaibemhdfhchfaaGreat
open Go Go.RowKit
set_option linter.unusedSimpArgs false
set_option linter.unusedVariables false
set_option maxRecDepth 100000
attribute [local simp] szT2 byT2 agT2 unT2 zoT2 szT4 byT4 agT4 unT4 zoT4 szT25 byT25 agT25 unT25 zoT25 szT27 byT27 agT27 flT27 fdT27_0 fdT27_1 fdT27_2 fdT27_3 zoT27 szT29 byT29 agT29 flT29 fdT29_0 fdT29_1 fdT29_2 zoT29 szT38 byT38 agT38 flT38 fdT38_0 fdT38_1 zoT38 szT125 byT125 agT125 elT125 unT125 zoT125 szT127 byT127 agT127 flT127 fdT127_0 fdT127_1 zoT127 szT129 byT129 agT129 flT129 fdT129_0 fdT129_1 fdT129_2 zoT129 szT271 byT271 agT271 unT271 zoT271

section
attribute [local simp] idf_numS cells_numS numS_fold
set_option maxHeartbeats 2000000 in
theorem l1Div_fc {j : Nat} (a b : Int) (hb0 : b ≠ 0) (ha : Bg j a) (hb : Bg j b) (hj : j ≤ 16777216) : FC Tryz.prog 252 [numS a, numS b] (.tup [numS (a / b), numS (a % b)]) := by
 have hD := l1DivAbs_fc a.natAbs b.natAbs (by omega) ha.abs hb.abs hj
 rw [dg_abs, dg_abs] at hD
 have eu := eu_lem a b hb0
 generalize hq : ((a.natAbs / b.natAbs : Nat) : Int) = q0 at *
 generalize hr : ((a.natAbs % b.natAbs : Nat) : Int) = r0 at *
 have q0n : 0 ≤ q0 := by rw [← hq]; exact Int.natCast_nonneg _
 have r0n : 0 ≤ r0 := by rw [← hr]; exact Int.natCast_nonneg _
 have bq : Bg j q0 := by
   rw [← hq]; unfold Bg at *; rw [Int.natAbs_natCast]; have := Nat.div_le_self a.natAbs b.natAbs; omega
 have br : Bg j r0 := by
   rw [← hr]; unfold Bg at *; rw [Int.natAbs_natCast]; have := Nat.mod_le a.natAbs b.natAbs; omega
 have bqs : ∀ s, Bg j (sg s q0) := fun s => by cases s <;> simp only [sg_true, sg_false]; exact bq; exact bq.neg
 have brs : ∀ s, Bg j (sg s r0) := fun s => by cases s <;> simp only [sg_true, sg_false]; exact br; exact br.neg
 have lq := bq.len32
 have lr := br.len32
 have hT1 := l1Trim_fc (decide (a < 0) != decide (b < 0)) (dg q0) (by omega) (dg_dig _)
 rw [dg_val, Int.natAbs_of_nonneg q0n] at hT1
 have hT2 := l1Trim_fc (decide (a < 0)) (dg r0) (by omega) (dg_dig _)
 rw [dg_val, Int.natAbs_of_nonneg r0n] at hT2
 obtain ⟨S, hS⟩ : ∃ S, (decide (a < 0) != decide (b < 0)) = S := ⟨_, rfl⟩
 have hS2 : (decide (a < 0) == decide (b < 0)) = !S := by rw [← hS]; cases decide (a < 0) <;> cases decide (b < 0) <;> rfl
 rw [hS] at eu hT1
 refine .b Tryz.func252 47 (fun nx K hK => ?_)
 refine .q ?_
 refine .sq fun K2 hK2 => ?_
 refine .region ?_
 refine .kf 4 hD hb246 ?_
 refine .e ?_
 refine hK2 _ ?_
 refine .sq fun K3 hK3 => ?_
 refine .region ?_
 refine .kf 6 hT1 hb235 ?_ (by simp (disch := first|omega|(simp only[ln];omega)) [List.take_succ_cons, List.take_zero, hS2]; rfl) (ha := by simp (disch := first|omega|(simp only[ln];omega)) [idf_Wd', hS2])
 refine .e ?_ (by simp (disch := first|omega|(simp only[ln];omega)) [hS2]; rfl)
 refine hK3 _ ?_
 refine .sq fun K4 hK4 => ?_
 refine .region ?_
 refine .kf 3 hT2 hb235 ?_
 refine .e ?_
 refine hK4 _ ?_
 refine .sq fun K5 hK5 => ?_
 refine .q ?_
 refine .c (t := decide (sg (decide (a < 0)) r0 < 0)) (fun h30 => ?_) (fun h30 => ?_)
 ·try simp only[dc]at h30
  refine .q ?_
  refine .c (t := decide (b < 0)) (fun h32 => ?_) (fun h32 => ?_)
  ·try simp only[dc]at h32
   have e := eu.2.1 h30 h32
   refine .sq fun K8 hK8 => ?_
   refine .d 3 ?_
   refine .k 1 (fun fs9 hfs9 => ?_)
   refine .f (l1Int_fc 1 (by omega) (by omega)) hb180 ?_
   refine .f (l1Add_fc (bqs S) (Bg.i64 (n := 1) (by omega) (by omega)) (by omega) (by omega)) hb192 ?_
   refine .r 3 (by simp only[ln, hfs9];omega) ?_
   refine hK8 _ ?_
   refine .region ?_
   refine .kf 2 (l1Sub_fc (brs (decide (a < 0))) hb (by omega) (by omega)) hb245 ?_
   refine .e ?_
   refine hK5 _ ?_
   refine .sq fun K10 hK10 => ?_
   refine .old fun hold => ?_
   refine .d 2 ?_
   refine .k 1 (fun fs11 hfs11 => ?_)
   refine DP.runF1q (by simp (disch := first|omega|(simp only[ln];omega)) [runDf.eq_def, runF1, runF2, stepF.eq_def, updo.eq_def, hupo.eq_def, opSto1.eq_def]; rfl) fun fq12 hfq12 => ?_
   simp [qids, asksB, Op.operands, topId] at hfq12
   simp only [updo]
   refine DQ.sto1 (m := 2) [1] _ (by simp (disch := first|omega|(simp only[ln];omega)) [runDf.eq_def, runF1, runF2, stepF.eq_def, updo.eq_def, hupo.eq_def, opSto1.eq_def]; rfl) rfl (by simp only[ln, hfs11];omega) (by kernel_rfl) (by intro k f hk hex; simp only [List.mem_cons, List.not_mem_nil, or_false] at hex; rcases hex with rfl <;> (simp [List.getElem?_append, hfs11] at hk; subst hk; refine ⟨?_, by first | omega | (simp; done) | (simp; omega)⟩; simp [qids, asksB, Op.operands, Call.operands, topId, numS, numI, Wd, hfq12]; try omega)) ?_
   try simp only []
   refine DQ.sto1 (m := 2) [] _ (by simp (disch := first|omega|(simp only[ln];omega)) [runDf.eq_def, runF1, runF2, stepF.eq_def, updo.eq_def, hupo.eq_def, opSto1.eq_def]; rfl) rfl (by simp only[ln, hfs11];omega) (by kernel_rfl) (by intro k f hk hex; simp only [List.not_mem_nil] at hex) ?_
   try simp only []
   refine hK10 _ ?_
   refine .ret ?_
   exact hK _ _ _ _ trivial ((Fin.m).cast (by rw [e.1, e.2]))
  ·try simp only[dc]at h32
   have e := eu.2.2 h30 h32
   refine .sq fun K13 hK13 => ?_
   refine .d 3 ?_
   refine .k 1 (fun fs14 hfs14 => ?_)
   refine .f (l1Int_fc 1 (by omega) (by omega)) hb180 ?_
   refine .f (l1Sub_fc (bqs S) (Bg.i64 (n := 1) (by omega) (by omega)) (by omega) (by omega)) hb245 ?_
   refine .r 3 (by simp only[ln, hfs14];omega) ?_
   refine hK13 _ ?_
   refine .region ?_
   refine .kf 2 (l1Add_fc (brs (decide (a < 0))) hb (by omega) (by omega)) hb192 ?_
   refine .e ?_
   refine hK5 _ ?_
   refine .sq fun K15 hK15 => ?_
   refine .old fun hold => ?_
   refine .d 2 ?_
   refine .k 1 (fun fs16 hfs16 => ?_)
   refine DP.runF1q (by simp (disch := first|omega|(simp only[ln];omega)) [runDf.eq_def, runF1, runF2, stepF.eq_def, updo.eq_def, hupo.eq_def, opSto1.eq_def]; rfl) fun fq17 hfq17 => ?_
   simp [qids, asksB, Op.operands, topId] at hfq17
   simp only [updo]
   refine DQ.sto1 (m := 2) [1] _ (by simp (disch := first|omega|(simp only[ln];omega)) [runDf.eq_def, runF1, runF2, stepF.eq_def, updo.eq_def, hupo.eq_def, opSto1.eq_def]; rfl) rfl (by simp only[ln, hfs16];omega) (by kernel_rfl) (by intro k f hk hex; simp only [List.mem_cons, List.not_mem_nil, or_false] at hex; rcases hex with rfl <;> (simp [List.getElem?_append, hfs16] at hk; subst hk; refine ⟨?_, by first | omega | (simp; done) | (simp; omega)⟩; simp [qids, asksB, Op.operands, Call.operands, topId, numS, numI, Wd, hfq17]; try omega)) ?_
   try simp only []
   refine DQ.sto1 (m := 2) [] _ (by simp (disch := first|omega|(simp only[ln];omega)) [runDf.eq_def, runF1, runF2, stepF.eq_def, updo.eq_def, hupo.eq_def, opSto1.eq_def]; rfl) rfl (by simp only[ln, hfs16];omega) (by kernel_rfl) (by intro k f hk hex; simp only [List.not_mem_nil] at hex) ?_
   try simp only []
   refine hK15 _ ?_
   refine .ret ?_
   exact hK _ _ _ _ trivial ((Fin.m).cast (by rw [e.1, e.2]))
 ·try simp only[dc]at h30
  have e := eu.1 h30
  refine .skip ?_
  refine hK5 _ ?_
  refine .sq fun K18 hK18 => ?_
  refine .old fun hold => ?_
  refine .d 2 ?_
  refine .k 1 (fun fs19 hfs19 => ?_)
  refine DP.runF1q (by simp (disch := first|omega|(simp only[ln];omega)) [runDf.eq_def, runF1, runF2, stepF.eq_def, updo.eq_def, hupo.eq_def, opSto1.eq_def]; rfl) fun fq20 hfq20 => ?_
  simp [qids, asksB, Op.operands, topId] at hfq20
  simp only [updo]
  refine DQ.sto1 (m := 2) [1] _ (by simp (disch := first|omega|(simp only[ln];omega)) [runDf.eq_def, runF1, runF2, stepF.eq_def, updo.eq_def, hupo.eq_def, opSto1.eq_def]; rfl) rfl (by simp only[ln, hfs19];omega) (by kernel_rfl) (by intro k f hk hex; simp only [List.mem_cons, List.not_mem_nil, or_false] at hex; rcases hex with rfl <;> (simp [List.getElem?_append, hfs19] at hk; subst hk; refine ⟨?_, by first | omega | (simp; done) | (simp; omega)⟩; simp [qids, asksB, Op.operands, Call.operands, topId, numS, numI, Wd, hfq20]; try omega)) ?_
  try simp only []
  refine DQ.sto1 (m := 2) [] _ (by simp (disch := first|omega|(simp only[ln];omega)) [runDf.eq_def, runF1, runF2, stepF.eq_def, updo.eq_def, hupo.eq_def, opSto1.eq_def]; rfl) rfl (by simp only[ln, hfs19];omega) (by kernel_rfl) (by intro k f hk hex; simp only [List.not_mem_nil] at hex) ?_
  try simp only []
  refine hK18 _ ?_
  refine .ret ?_
  exact hK _ _ _ _ trivial ((Fin.m).cast (by rw [e.1, e.2]))
set_option maxHeartbeats 2000000 in
theorem l3Make_fc {j : Nat} (x y w : Int) (hw : w ≠ 0) (bx : Bg j x) (bY : Bg j y) (bw : Bg j w) (hj0 : 1 ≤ j) (hj : j ≤ 16777216) : FC Tryz.prog 193 [numS x, numS y, numS w] (l3A (nrm w x / gcd3 x y w) (nrm w y / gcd3 x y w) (nrm w w / gcd3 x y w)) := by
 have hgp := gcd3_pos (x := x) (y := y) hw
 have hg3 := gcd3_nrm x y w
 refine .b Tryz.func193 47 (fun nx K hK => ?_) (hr := by simp [idfL, idf, l3A, l3C, idf_Wd'])
 refine .q ?_
 refine .sq fun K2 hK2 => ?_
 have J2 : ∀ s : St, (∃ X Y W : Int, X = nrm w x ∧ Y = nrm w y ∧ W = nrm w w ∧ s.env 3 = .ptr nx 0 0 ∧ s.env 4 = .ptr (nx + 1) 0 0 ∧ s.env 5 = .ptr (nx + 1 + 1) 0 0 ∧ s.env 6 = .ptr (nx + 1 + 1 + 1) 0 0 ∧ s.heap nx = some (2, [[.bool (decide (X < 0)), Wd .u32 (dg X)]]) ∧ s.heap (nx + 1) = some (2, [[.bool (decide (Y < 0)), Wd .u32 (dg Y)]]) ∧ s.heap (nx + 1 + 1) = some (2, [[.bool (decide (W < 0)), Wd .u32 (dg W)]]) ∧ s.heap (nx + 1 + 1 + 1) = some (6, [[.bool false, .nsl, .bool false, .nsl, .bool false, .nsl]]) ∧ nx + 1 + 1 + 1 < s.nx ∧ s.nt = 47) → K2 s := by
  rintro ⟨e, H, mm, nt⟩ ⟨X, Y, W, hX, hY, hW, h3, h4, h5, h6, hA, hB, hC, hD, hm, rfl⟩
  simp only [] at h3 h4 h5 h6 hA hB hC hD hm
  rw [← hX, ← hY, ← hW] at hg3
  have cX : Bg j X := by rw [hX]; exact bx.nrm
  have cY : Bg j Y := by rw [hY]; exact bY.nrm
  have cW : Bg j W := by rw [hW]; exact bw.nrm
  have bG1 : Bg j ((Int.gcd X Y : Nat) : Int) := Bg.gcd cX.abs cY.abs
  have bG : Bg j (gcd3 x y w) := by rw [← hg3]; exact Bg.gcd bG1 cW.abs
  have hg2 : FC Tryz.prog 179 [numS ((Int.gcd X Y : Nat) : Int), numS W] (numS (gcd3 x y w)) := by
    have h := l1Gcd_fc ((Int.gcd X Y : Nat) : Int) W bG1 cW hj
    have e : ((Int.gcd ((Int.gcd X Y : Nat) : Int) W : Nat) : Int) = gcd3 x y w := by rw [← hg3]; simp [Int.gcd, gcd3]
    rw [e] at h; exact h
  obtain ⟨cc, hcf, hce⟩ : ∃ c : Int, FC Tryz.prog 178 [numS (gcd3 x y w), numS 1] (.int .i64 c) ∧ (c == 0) = decide (gcd3 x y w = 1) := ⟨_, l1Cmp_fc bG (Bg.i64 (n := 1) (by omega) (by omega)) (by omega) (by omega), one_cmp _⟩
  generalize hgg : gcd3 x y w = g at *
  refine hK2 _ ?_
  refine .sq fun K3 hK3 => ?_
  refine .d 6 ?_
  refine .k 2 (fun fs4 hfs4 => ?_) (by simp (disch := first|omega|(simp only[ln];omega)) [runDf.eq_def, runF1, runF2, stepF.eq_def, updo.eq_def, hupo.eq_def, opSto1.eq_def, List.take_succ_cons, List.take_zero, h3, h4, h5, hA, hB, hC, Nat.ne_of_lt hm]; rfl)
  refine .f (l1Gcd_fc X Y cX cY hj) hb179 ?_ (ha := by simp (disch := first|omega|(simp only[ln];omega)) [idf_Wd', h3, h4, h5, hA, hB, hC, Nat.ne_of_lt hm])
  refine .k 1 (fun fs5 hfs5 => ?_) (by simp (disch := first|omega|(simp only[ln];omega)) [runDf.eq_def, runF1, runF2, stepF.eq_def, updo.eq_def, hupo.eq_def, opSto1.eq_def, List.take_succ_cons, List.take_zero, h3, h4, h5, hA, hB, hC, Nat.ne_of_lt hm]; rfl)
  refine .f hg2 hb179 ?_ (ha := by simp (disch := first|omega|(simp only[ln];omega)) [idf_Wd', h3, h4, h5, hA, hB, hC, Nat.ne_of_lt hm])
  refine .k 1 (fun fs6 hfs6 => ?_) (by simp (disch := first|omega|(simp only[ln];omega)) [runDf.eq_def, runF1, runF2, stepF.eq_def, updo.eq_def, hupo.eq_def, opSto1.eq_def, List.take_succ_cons, List.take_zero, h3, h4, h5, hA, hB, hC, Nat.ne_of_lt hm]; rfl)
  refine .r 6 (by simp only[ln, hfs4, hfs5, hfs6];omega) ?_ (by simp (disch := first|omega|(simp only[ln];omega)) [runDf.eq_def, runF1, runF2, stepF.eq_def, updo.eq_def, hupo.eq_def, opSto1.eq_def, h3, h4, h5, hA, hB, hC, Nat.ne_of_lt hm]; rfl)
  refine hK3 _ ?_
  refine .sq fun K7 hK7 => ?_
  refine .sq fun K8 hK8 => ?_
  refine .d 4 ?_
  refine .k 1 (fun fs9 hfs9 => ?_)
  refine .f (l1Int_fc 1 (by omega) (by omega)) hb180 ?_
  refine .f hcf hb178 ?_
  refine .k 1 (fun fs10 hfs10 => ?_)
  refine .r 4 (by simp only[ln, hfs9, hfs10];omega) ?_
  refine hK8 _ ?_
  refine .c (t := !decide (g = 1)) (fun h24 => ?_) (fun h24 => ?_) (by simp (disch := first|omega|(simp only[ln];omega)) [bne, hce])
  ·try simp only[dc]at h24
   refine .sq fun K11 hK11 => ?_
   refine .region ?_
   refine .kf 2 (l1Div_fc X g (by omega) cX bG hj) hb252 ?_ (by simp (disch := first|omega|(simp only[ln];omega)) [List.take_succ_cons, List.take_zero, h3, hA]; rfl) (ha := by simp (disch := first|omega|(simp only[ln];omega)) [idf_Wd', h3, hA])
   refine .e ?_ (by simp (disch := first|omega|(simp only[ln];omega)) [h3, hA]; rfl)
   refine hK11 _ ?_
   refine .sq fun K12 hK12 => ?_
   refine .region ?_
   refine .kf 2 (l1Div_fc Y g (by omega) cY bG hj) hb252 ?_ (by simp (disch := first|omega|(simp only[ln];omega)) [List.take_succ_cons, List.take_zero, h4, hB]; rfl) (ha := by simp (disch := first|omega|(simp only[ln];omega)) [idf_Wd', h4, hB])
   refine .e ?_ (by simp (disch := first|omega|(simp only[ln];omega)) [h4, hB]; rfl)
   refine hK12 _ ?_
   refine .region ?_
   refine .kf 2 (l1Div_fc W g (by omega) cW bG hj) hb252 ?_ (by simp (disch := first|omega|(simp only[ln];omega)) [List.take_succ_cons, List.take_zero, h5, hC]; rfl) (ha := by simp (disch := first|omega|(simp only[ln];omega)) [idf_Wd', h5, hC])
   refine .e ?_ (by simp (disch := first|omega|(simp only[ln];omega)) [h5, hC]; rfl)
   refine hK7 _ ?_
   refine .q ?_ (by simp (disch := first|omega|(simp only[ln];omega)) [h3, h4, h5, h6, hD]; rfl)
   refine .ret ?_
   exact hK _ _ _ _ trivial ((Fin.mk (by simp (disch := omega) [aRes, aResL, aRes1, h6]; rfl)).cast (by rw [← hX, ← hY, ← hW]; first | done | rfl))
  ·try simp only[dc]at h24
   have hg1 : g = 1 := by simpa using h24
   refine .skip ?_
   refine hK7 _ ?_
   refine .q ?_ (by simp (disch := first|omega|(simp only[ln];omega)) [h3, h4, h5, h6, hA, hB, hC, hD]; rfl)
   refine .ret ?_
   exact hK _ _ _ _ trivial ((Fin.mk (by simp (disch := omega) [aRes, aResL, aRes1, h6]; rfl)).cast (by rw [← hX, ← hY, ← hW, hg1, Int.ediv_one, Int.ediv_one, Int.ediv_one]; first | done | rfl))
 refine .q ?_
 refine .c (t := decide (w < 0)) (fun h9 => ?_) (fun h9 => ?_)
 ·try simp only[dc]at h9
  refine .old fun hold => ?_
  refine .d 6 ?_
  refine .k 1 (fun fs16 hfs16 => ?_)
  refine .f (l1Neg_fc x) hb251 ?_
  refine DP.runF1q (by simp (disch := first|omega|(simp only[ln];omega)) [runDf.eq_def, runF1, runF2, stepF.eq_def, updo.eq_def, hupo.eq_def, opSto1.eq_def]; rfl) fun fq17 hfq17 => ?_
  simp [qids, asksB, Op.operands, topId] at hfq17
  simp only [updo]
  refine .f (l1Neg_fc y) hb251 ?_
  refine DP.runF1q (by simp (disch := first|omega|(simp only[ln];omega)) [runDf.eq_def, runF1, runF2, stepF.eq_def, updo.eq_def, hupo.eq_def, opSto1.eq_def]; rfl) fun fq18 hfq18 => ?_
  simp [qids, asksB, Op.operands, topId] at hfq18
  simp only [updo]
  refine .f (l1Neg_fc w) hb251 ?_
  refine DQ.sto1 (m := 6) [2, 3, 4] _ (by simp (disch := first|omega|(simp only[ln];omega)) [runDf.eq_def, runF1, runF2, stepF.eq_def, updo.eq_def, hupo.eq_def, opSto1.eq_def]; rfl) rfl (by simp only[ln, hfs16];omega) (by kernel_rfl) (by intro k f hk hex; simp only [List.mem_cons, List.not_mem_nil, or_false] at hex; rcases hex with rfl | rfl | rfl <;> (simp [List.getElem?_append, hfs16] at hk; subst hk; refine ⟨?_, by first | omega | (simp; done) | (simp; omega)⟩; simp [qids, asksB, Op.operands, Call.operands, topId, numS, numI, Wd, hfq17, hfq18]; try omega)) ?_
  try simp only []
  refine DQ.sto1 (m := 6) [4, 5] _ (by simp (disch := first|omega|(simp only[ln];omega)) [runDf.eq_def, runF1, runF2, stepF.eq_def, updo.eq_def, hupo.eq_def, opSto1.eq_def]; rfl) rfl (by simp only[ln, hfs16];omega) (by kernel_rfl) (by intro k f hk hex; simp only [List.mem_cons, List.not_mem_nil, or_false] at hex; rcases hex with rfl | rfl <;> (simp [List.getElem?_append, hfs16] at hk; subst hk; refine ⟨?_, by first | omega | (simp; done) | (simp; omega)⟩; simp [qids, asksB, Op.operands, Call.operands, topId, numS, numI, Wd, hfq17, hfq18]; try omega)) ?_
  try simp only []
  refine DQ.sto1 (m := 6) [] _ (by simp (disch := first|omega|(simp only[ln];omega)) [runDf.eq_def, runF1, runF2, stepF.eq_def, updo.eq_def, hupo.eq_def, opSto1.eq_def]; rfl) rfl (by simp only[ln, hfs16];omega) (by kernel_rfl) (by intro k f hk hex; simp only [List.not_mem_nil] at hex) ?_
  try simp only []
  refine J2 _ ?_
  exact ⟨-x, -y, -w, by simp [nrm, h9], by simp [nrm, h9], by simp [nrm, h9], by simp, by simp, by simp, by simp, by simp (disch := omega), by simp (disch := omega), by simp (disch := omega), by simp (disch := omega), by simp, rfl⟩
 ·try simp only[dc]at h9
  refine .skip ?_
  refine J2 _ ?_
  exact ⟨x, y, w, by simp [nrm, h9], by simp [nrm, h9], by simp [nrm, h9], by simp, by simp, by simp, by simp, by simp (disch := omega), by simp (disch := omega), by simp (disch := omega), by simp (disch := omega), by simp, rfl⟩
end
section
attribute [local simp] idf_numS cells_numS numS_fold l3A l3C
end
section
attribute [local simp] idf_numS cells_numS numS_fold
theorem l3Spot_fc (x y : Int) (hx1 : -9223372036854775808 ≤ x) (hx2 : x ≤ 9223372036854775807) (hy1 : -9223372036854775808 ≤ y) (hy2 : y ≤ 9223372036854775807) : FC Tryz.prog 93 [.agg [.int .i64 x, .int .i64 y]] (l3A x y 1) := by
 refine .b Tryz.func93 11 (fun nx K hK => ?_) (hr := by simp [idfL, idf, l3A, l3C, idf_Wd'])
 refine .q ?_
 refine .sq fun K2 hK2 => ?_
 refine .d 8 ?_
 refine .k 2 (fun fs3 hfs3 => ?_)
 refine .f (l1Int_fc x hx1 hx2) hb180 ?_
 refine .k 2 (fun fs4 hfs4 => ?_)
 refine .f (l1Int_fc y hy1 hy2) hb180 ?_
 refine .f (l1Int_fc 1 (by omega) (by omega)) hb180 ?_
 refine .k 1 (fun fs5 hfs5 => ?_)
 refine .r 8 (by simp only[ln, hfs3, hfs4, hfs5];omega) ?_
 refine hK2 _ ?_
 refine .ret ?_
 exact hK _ _ _ _ trivial ((Fin.m).cast (by rfl))
end

end Go.Proofs.YtaibemhdfhchfaaGreat

/- Walks: points made and halved by the reference. -/
namespace Go.Proofs.YtaibemhdfhchfaaGreat
open Go Go.RowKit
set_option linter.unusedSimpArgs false
set_option linter.unusedVariables false
set_option maxRecDepth 100000
attribute [local simp] szT25 byT25 agT25 unT25 zoT25 szT27 byT27 agT27 flT27 fdT27_0 fdT27_1 fdT27_2 fdT27_3 zoT27 szT29 byT29 agT29 flT29 fdT29_0 fdT29_1 fdT29_2 zoT29

theorem eqW1 (n : Nat) (a a' : Int) : eqW Tryz.prog (n + 1) 25 [.int .u64 a] [.int .u64 a'] = some (a == a') := by
  unfold eqW; simp only [Tryz.underlying25]; rfl
section
attribute [local simp] idf_numS cells_numS numS_fold wdI
end

end Go.Proofs.YtaibemhdfhchfaaGreat

/- Walks: drawn numbers. -/
namespace Go.Proofs.YtaibemhdfhchfaaGreat
open Go Go.RowKit
set_option linter.unusedSimpArgs false
set_option linter.unusedVariables false
set_option maxRecDepth 100000
attribute [local simp] szT3 byT3 agT3 unT3 zoT3 szT5 byT5 agT5 unT5 zoT5 szT22 byT22 agT22 elT22 unT22 zoT22 szT25 byT25 agT25 unT25 zoT25 szT196 byT196 agT196 flT196 fdT196_0 fdT196_1 zoT196

set_option maxHeartbeats 1000000 in
theorem next_ac (l : List Int) (p id : Nat) (H : Heap) (nx : Nat) (dl : Dig 256 l) (hl : l.length ≤ 1048576) (hp : p ≤ l.length) (hH : H id = some (2, [[Wd .u8 l, .int .i64 (p : Int)]])) (hd : ∀ i q, H i = some q → i < nx) : ACall Tryz.prog 185 [.ptr id 0 0] H nx (fun r H' nx' => (∃ n : Int, r = .int .i64 n ∧ 0 ≤ n ∧ n ≤ 255) ∧ (∃ p' : Nat, p' ≤ l.length ∧ H' = hupd H id (some (2, [[Wd .u8 l, .int .i64 (p' : Int)]]))) ∧ nx ≤ nx') := by
 refine .b Tryz.func185 32 fun K hK => ?_
 refine .q ?_
 refine .sq fun K2 hK2 => ?_
 refine .sq fun K3 hK3 => ?_
 refine .df 10 ?_ (by simp (disch := first|omega|(simp only[ln];omega)) [runDf.eq_def, runF1, runF2, stepF.eq_def, updo.eq_def, hupo.eq_def, opSto1.eq_def, len_Wd (P := Tryz.prog) #[22] rfl elT22, hH]; rfl)
 refine hK3 _ ?_
 refine .c (fun h12 => ?_) (fun h12 => ?_)
 ·try simp only[dc]at h12
  refine .q ?_
  refine .ret ?_
  exact hK _ _ _ _ _ trivial (Fin.m) (⟨⟨0, rfl, by omega, by omega⟩, ⟨p, hp, (hupd_id hH).symm⟩, by simp⟩)
 ·try simp only[dc]at h12
  have hlt : p < l.length := by omega
  have gl := dl.gt (by omega) p
  have ep : ((p : Int) + 1 - 1).toNat = p := by omega
  have ep2 : (p : Int) + 1 - 1 = p := by omega
  refine .skip ?_
  refine hK2 _ ?_
  refine .q ?_ (by simp (disch := first|omega|(simp only[ln];omega)) [hH]; rfl)
  refine .sq fun K6 hK6 => ?_
  refine .df 12 ?_ (by simp (disch := first|omega|(simp only[ln];omega)) [runDf.eq_def, runF1, runF2, stepF.eq_def, updo.eq_def, hupo.eq_def, opSto1.eq_def, idx_WdD (P := Tryz.prog) elT22 szT5, if_pos, hH, ep, ep2, ld_ip agT5]; rfl)
  refine hK6 _ ?_
  refine .ret ?_
  exact hK _ _ _ _ _ trivial (Fin.m) (⟨⟨gt l p, rfl, by omega, by omega⟩, ⟨p + 1, by omega, by simp⟩, by simp; omega⟩)
set_option maxHeartbeats 1000000 in
theorem below_ac (n : Int) (hn0 : 1 < n) (hn1 : n ≤ 65536) (l : List Int) (p id : Nat) (H : Heap) (nx : Nat) (dl : Dig 256 l) (hl : l.length ≤ 1048576) (hp : p ≤ l.length) (hH : H id = some (2, [[Wd .u8 l, .int .i64 (p : Int)]])) (hd : ∀ i q, H i = some q → i < nx) : ACall Tryz.prog 100 [.ptr id 0 0, .int .i64 n] H nx (fun r H' nx' => (∃ k : Int, r = .int .i64 k ∧ 0 ≤ k ∧ k < n) ∧ (∃ p' : Nat, p' ≤ l.length ∧ H' = hupd H id (some (2, [[Wd .u8 l, .int .i64 (p' : Int)]]))) ∧ nx ≤ nx') := by
 have hnz : n ≠ 0 := by omega
 have tm : ∀ a : Int, 0 ≤ a → a.tmod n = a % n := fun a h => Int.tmod_eq_emod_of_nonneg h
 have em0 : ∀ a : Int, 0 ≤ a % n := fun a => Int.emod_nonneg a hnz
 have em1 : ∀ a : Int, a % n < n := fun a => Int.emod_lt_of_pos a (by omega)
 refine .b Tryz.func100 24 fun K hK => ?_
 refine .q ?_
 refine .sq fun K2 hK2 => ?_
 refine .q ?_
 refine .c (fun h7 => ?_) (fun h7 => ?_)
 ·simp at h7; omega
 ·try simp only[dc]at h7
  refine .skip ?_
  refine hK2 _ ?_
  refine .sq fun K4 hK4 => ?_
  refine .q ?_
  refine .c (fun h9 => ?_) (fun h9 => ?_)
  ·try simp only[dc]at h9
   refine .sq fun K6 hK6 => ?_
   refine .region ?_
   refine .k 1 ?_ (by simp (disch := first|omega|(simp only[ln];omega)) [List.take_succ_cons, List.take_zero, hnz]; rfl)
   refine AOPS.old fun hold1 => ?_
   refine .a (next_ac l p id _ _ dl hl hp (by simp [hH]) hold1) hb185 ?_ (ha := by simp (disch := first|omega|(simp only[ln];omega)) [idf_Wd', hnz])
   rintro _ _ nx2 ⟨⟨m, rfl, m0, m1⟩, ⟨p2, hp2, rfl⟩, hnx2⟩
   try simp only [] at hnx2
   refine .e ?_ (by simp (disch := first|omega|(simp only[ln];omega)) [hnz]; rfl)
   refine hK6 _ ?_
   refine .ret ?_
   exact hK _ _ _ _ _ trivial (Fin.mk (r := .int .i64 (m.tmod n)) (by simp [aRes, aResL, aRes1])) (⟨⟨_, rfl, by rw [tm m m0]; exact em0 _, by rw [tm m m0]; exact em1 _⟩, ⟨p2, hp2, by simp [hupd_same]⟩, by first | exact hnx2 | (simp at *; omega)⟩)
  ·try simp only[dc]at h9
   refine .skip ?_
   refine hK4 _ ?_
   refine .sq fun K7 hK7 => ?_
   refine .region ?_
   refine .k 1 ?_
   refine AOPS.old fun hold1 => ?_
   refine .a (next_ac l p id _ _ dl hl hp (by simp [hH]) hold1) hb185 ?_
   rintro _ _ nx2 ⟨⟨m, rfl, m0, m1⟩, ⟨p2, hp2, rfl⟩, hnx2⟩
   try simp only [] at hnx2
   refine .e ?_
   refine hK7 _ ?_
   refine .sq fun K8 hK8 => ?_
   refine .region ?_
   refine .k 2 ?_
   refine AOPS.old fun hold2 => ?_
   refine .a (next_ac l p2 id _ _ dl hl hp2 (by simp [hH]) hold2) hb185 ?_
   rintro _ _ nx3 ⟨⟨m2, rfl, m20, m21⟩, ⟨p3, hp3, rfl⟩, hnx3⟩
   try simp only [] at hnx3
   refine .e ?_
   refine hK8 _ ?_
   refine .q ?_ (by simp (disch := first|omega|(simp only[ln];omega)) [hnz]; rfl)
   refine .ret ?_
   exact hK _ _ _ _ _ trivial (Fin.mk (r := .int .i64 ((m * 256 + m2).tmod n)) (by simp [aRes, aResL, aRes1])) (⟨⟨_, rfl, by rw [tm _ (by omega)]; exact em0 _, by rw [tm _ (by omega)]; exact em1 _⟩, ⟨p3, hp3, by simp [hupd_same]⟩, by first | exact Nat.le_trans hnx2 hnx3 | (simp at *; omega)⟩)
set_option maxHeartbeats 1000000 in
theorem once_ac (n : Int) (hn0 : 1 < n) (hn1 : n ≤ 65536) (l : List Int) (p id : Nat) (H : Heap) (nx : Nat) (dl : Dig 256 l) (hl : l.length ≤ 1048576) (hp : p ≤ l.length) (hH : H id = some (2, [[Wd .u8 l, .int .i64 (p : Int)]])) (hd : ∀ i q, H i = some q → i < nx) : ACall Tryz.prog 98 [.ptr id 0 0, .int .i64 n] H nx (fun r H' nx' => (∃ b : Bool, r = .bool b) ∧ (∃ p' : Nat, p' ≤ l.length ∧ H' = hupd H id (some (2, [[Wd .u8 l, .int .i64 (p' : Int)]]))) ∧ nx ≤ nx') := by
 refine .b Tryz.func98 11 fun K hK => ?_
 refine .q ?_
 refine .sq fun K2 hK2 => ?_
 refine .region ?_
 refine .k 2 ?_
 refine AOPS.old fun hold2 => ?_
 refine .a (below_ac n hn0 hn1 l p id _ _ dl hl hp (by simp [hH]) hold2) hb100 ?_
 rintro _ _ nx2 ⟨⟨k, rfl, k0, k1⟩, ⟨p2, hp2, rfl⟩, hnx2⟩
 try simp only [] at hnx2
 refine .e ?_
 refine hK2 _ ?_
 refine .ret ?_
 exact hK _ _ _ _ _ trivial (Fin.mk (r := .bool (k == n - 1)) (by simp [aRes, aResL, aRes1])) (⟨⟨_, rfl⟩, ⟨p2, hp2, by simp [hupd_same]⟩, by first | exact hnx2 | (simp at *; omega)⟩)
set_option maxHeartbeats 1000000 in
theorem word_ac (l : List Int) (p id : Nat) (H : Heap) (nx : Nat) (dl : Dig 256 l) (hl : l.length ≤ 1048576) (hp : p ≤ l.length) (hH : H id = some (2, [[Wd .u8 l, .int .i64 (p : Int)]])) (hd : ∀ i q, H i = some q → i < nx) : ACall Tryz.prog 161 [.ptr id 0 0] H nx (fun r H' nx' => (∃ n : Int, r = .int .u64 n ∧ U64 n) ∧ (∃ p' : Nat, p' ≤ l.length ∧ H' = hupd H id (some (2, [[Wd .u8 l, .int .i64 (p' : Int)]]))) ∧ nx ≤ nx') := by
 refine .b Tryz.func161 16 fun K hK => ?_
 refine .q ?_
 refine .q ?_
 refine .sq fun K3 hK3 => ?_
 refine .q ?_
 refine .block ?_
 refine .loop (fun N s => ∃ (i p' : Nat) (x : Int), N = 8 - i ∧ i ≤ 8 ∧ p' ≤ l.length ∧ U64 x ∧ s.env 0 = .ptr id 0 0 ∧ s.env 3 = .int .u64 x ∧ s.env 4 = .int .i64 (i : Int) ∧ s.heap = hupd H id (some (2, [[Wd .u8 l, .int .i64 (p' : Int)]])) ∧ nx ≤ s.nx ∧ s.nt = 16) (8) (⟨0, p, 0, by omega, by omega, hp, by unfold U64; omega, by simp, by simp, by simp, by simp [hupd_id hH], by simp, rfl⟩) ?_
 rintro N ⟨e, HH, mm, nt⟩ ⟨i, q, x, rfl, hi, hq, hx, h0, h3, h4, rfl, hm, rfl⟩
 simp only [] at h0 h3 h4 hm
 refine .sq fun K5 hK5 => ?_
 refine .q ?_ (by simp (disch := first|omega|(simp only[ln];omega)) [h4]; rfl)
 refine .c (fun h6 => ?_) (fun h6 => ?_)
 ·try simp only[dc]at h6
  have hi' : i < 8 := by omega
  refine .skip ?_
  refine hK5 _ ?_
  refine .sq fun K7 hK7 => ?_
  refine .block ?_
  refine .region ?_
  refine .k 3 ?_ (by simp (disch := first|omega|(simp only[ln];omega)) [List.take_succ_cons, List.take_zero, h0, h3, IntKind.bits]; rfl)
  refine AOPS.old fun hold3 => ?_
  refine .a (next_ac l q id _ _ dl hl hq (by simp) hold3) hb185 ?_ (ha := by simp (disch := first|omega|(simp only[ln];omega)) [idf_Wd', h0, h3, IntKind.bits])
  rintro _ _ nx2 ⟨⟨m, rfl, m0, m1⟩, ⟨p2, hp2, rfl⟩, hnx2⟩
  try simp only [] at hnx2
  have ox := or_u64 (wrap_U64 (x * 2 ^ 8)) (show U64 m by unfold U64; omega)
  try simp only [] at ox
  refine .e ?_ (by simp (disch := first|omega|(simp only[ln];omega)) [h0, h3, IntKind.bits]; rfl)
  refine hK7 _ ?_
  refine .r ?_ (by simp (disch := first|omega|(simp only[ln];omega)) [h4]; rfl)
  refine ⟨8 - (i + 1), by omega, i + 1, p2, _, rfl, by omega, hp2, ox, by simp [h0], by simp [IntKind.bits], by simp (disch := omega) [h4], by simp [hupd_same], by simp at *; omega, rfl⟩
 ·try simp only[dc]at h6
  refine .exit ?_
  refine hK3 _ ?_
  refine .q ?_ (by simp (disch := first|omega|(simp only[ln];omega)) [h3]; rfl)
  refine .ret ?_
  exact hK _ _ _ _ _ trivial (Fin.mk (r := .int .u64 x) (by simp [aRes, aResL, aRes1])) (⟨⟨x, rfl, hx⟩, ⟨q, hq, rfl⟩, hm⟩)

end Go.Proofs.YtaibemhdfhchfaaGreat

/- Walks: drawn numbers near others; drawn spots. -/
namespace Go.Proofs.YtaibemhdfhchfaaGreat
open Go Go.RowKit
set_option linter.unusedSimpArgs false
set_option linter.unusedVariables false
set_option maxRecDepth 100000
attribute [local simp] szT2 byT2 agT2 unT2 zoT2 szT3 byT3 agT3 unT3 zoT3 szT25 byT25 agT25 unT25 zoT25 szT38 byT38 agT38 flT38 fdT38_0 fdT38_1 zoT38

set_option maxHeartbeats 1000000 in
theorem near_ac (a b : Int) (ha : -1152921504606846976 ≤ a) (hab : a ≤ b) (hb : b ≤ 1152921504606846976) (l : List Int) (p id : Nat) (H : Heap) (nx : Nat) (dl : Dig 256 l) (hl : l.length ≤ 1048576) (hp : p ≤ l.length) (hH : H id = some (2, [[Wd .u8 l, .int .i64 (p : Int)]])) (hd : ∀ i q, H i = some q → i < nx) : ACall Tryz.prog 162 [.ptr id 0 0, .int .i64 a, .int .i64 b] H nx (fun r H' nx' => (∃ k : Int, r = .int .i64 k ∧ a ≤ k ∧ k ≤ b) ∧ (∃ p' : Nat, p' ≤ l.length ∧ H' = hupd H id (some (2, [[Wd .u8 l, .int .i64 (p' : Int)]]))) ∧ nx ≤ nx') := by
 have hid := hd id _ hH
 refine .b Tryz.func162 31 fun K hK => ?_
 refine .q ?_
 refine .sq fun K2 hK2 => ?_
 refine .sq fun K3 hK3 => ?_
 refine .region ?_
 refine .k 1 ?_
 refine AOPS.old fun hold1 => ?_
 refine .a (below_ac 8 (by omega) (by omega) l p id _ _ dl hl hp (by simp [hH]) hold1) hb100 ?_
 rintro _ _ nx2 ⟨⟨k, rfl, k0, k1⟩, ⟨p2, hp2, rfl⟩, hnx2⟩
 try simp only [] at hnx2
 refine .nil ?_
 refine hK3 _ ?_
 refine .block ?_
 refine .q ?_
 refine .c (fun h9 => ?_) (fun h9 => ?_)
 ·try simp only[dc]at h9
  refine .q ?_
  refine .ret ?_
  exact hK _ _ _ _ _ trivial (Fin.mk (r := .int .i64 a) (by simp [aRes, aResL, aRes1])) (⟨⟨_, rfl, by omega, by omega⟩, ⟨p2, hp2, by simp [hupd_same]⟩, by first | exact hnx2 | (simp at *; omega)⟩)
 ·try simp only[dc]at h9
  refine .q ?_
  refine .c (fun h12 => ?_) (fun h12 => ?_)
  ·try simp only[dc]at h12
   refine .q ?_
   refine .ret ?_
   exact hK _ _ _ _ _ trivial (Fin.mk (r := .int .i64 b) (by simp [aRes, aResL, aRes1])) (⟨⟨_, rfl, by omega, by omega⟩, ⟨p2, hp2, by simp [hupd_same]⟩, by first | exact hnx2 | (simp at *; omega)⟩)
  ·try simp only[dc]at h12
   refine .skip ?_
   refine hK2 _ ?_
   refine .sq fun K8 hK8 => ?_
   refine .q ?_
   refine .c (fun h17 => ?_) (fun h17 => ?_)
   ·simp at h17; omega
   ·try simp only[dc]at h17
    refine .skip ?_
    refine hK8 _ ?_
    refine .sq fun K10 hK10 => ?_
    have hdz : b - a + 1 ≠ 0 := by omega
    have cw : IntKind.u64.wrap (b - a + 1) = b - a + 1 := wrap_u64s (by omega) (by omega)
    have tmw : ∀ w : Int, 0 ≤ w → (w / 2).tmod (b - a + 1) = w / 2 % (b - a + 1) := fun w h => Int.tmod_eq_emod_of_nonneg (by omega)
    have sw : ∀ w : Int, 0 ≤ w → IntKind.i64.wrap (w / 2 % (b - a + 1)) = w / 2 % (b - a + 1) := fun w h => by
      have e0 := Int.emod_nonneg (w / 2) hdz
      have e1 := Int.emod_lt_of_pos (w / 2) (show 0 < b - a + 1 by omega)
      exact wrap_i64s (by omega) (by omega)
    refine .region ?_
    refine .k 2 ?_ (by simp (disch := first|omega|(simp only[ln];omega)) [List.take_succ_cons, List.take_zero, IntKind.bits, Int.fdiv_eq_ediv_of_nonneg, hdz, tmw, cw, sw]; rfl)
    refine AOPS.old fun hold2 => ?_
    refine .a (word_ac l p2 id _ _ dl hl hp2 (by simp) hold2) hb161 ?_ (ha := by simp (disch := first|omega|(simp only[ln];omega)) [idf_Wd', IntKind.bits, Int.fdiv_eq_ediv_of_nonneg, hdz, tmw, cw, sw])
    rintro _ _ nx3 ⟨⟨w, rfl, hw0, hw1⟩, ⟨p3, hp3, rfl⟩, hnx3⟩
    have e0 := Int.emod_nonneg (w / 2) hdz
    have e1 := Int.emod_lt_of_pos (w / 2) (show 0 < b - a + 1 by omega)
    try simp only [] at hnx3
    refine .e ?_ (by simp (disch := first|omega|(simp only[ln];omega)) [IntKind.bits, Int.fdiv_eq_ediv_of_nonneg, hdz, tmw, cw, sw]; rfl)
    refine hK10 _ ?_
    refine .ret ?_
    exact hK _ _ _ _ _ trivial (Fin.mk (r := .int .i64 (a + w / 2 % (b - a + 1))) (by simp [aRes, aResL, aRes1])) (⟨⟨_, rfl, by omega, by omega⟩, ⟨p3, hp3, by simp [hupd_same]⟩, by first | exact Nat.le_trans hnx2 hnx3 | (simp at *; omega)⟩)
set_option maxHeartbeats 1000000 in
theorem spot_ac (l : List Int) (p id : Nat) (H : Heap) (nx : Nat) (dl : Dig 256 l) (hl : l.length ≤ 1048576) (hp : p ≤ l.length) (hH : H id = some (2, [[Wd .u8 l, .int .i64 (p : Int)]])) (hd : ∀ i q, H i = some q → i < nx) : ACall Tryz.prog 155 [.ptr id 0 0] H nx (fun r H' nx' => (∃ x y : Int, r = .agg [.int .i64 x, .int .i64 y] ∧ -6 ≤ x ∧ x ≤ 6 ∧ -6 ≤ y ∧ y ≤ 6) ∧ (∃ p' : Nat, p' ≤ l.length ∧ H' = hupd H id (some (2, [[Wd .u8 l, .int .i64 (p' : Int)]]))) ∧ nx ≤ nx') := by
 have hid := hd id _ hH
 refine .b Tryz.func155 8 fun K hK => ?_
 refine .q ?_
 refine .sq fun K2 hK2 => ?_
 refine .region ?_
 refine .k 1 ?_ (by simp (disch := first|omega|(simp only[ln];omega)) [List.take_succ_cons, List.take_zero, hH]; rfl)
 refine AOPS.old fun hold1 => ?_
 refine .a (near_ac (-6) (6) (by omega) (by omega) (by omega) l p id _ _ dl hl hp (by simp (disch := omega) [hH]) hold1) hb162 ?_ (ha := by simp (disch := first|omega|(simp only[ln];omega)) [idf_Wd', hH])
 rintro _ _ nx2 ⟨⟨x, rfl, x0, x1⟩, ⟨p2, hp2, rfl⟩, hnx2⟩
 try simp only [] at hnx2
 refine .k 1 ?_ (by simp (disch := first|omega|(simp only[ln];omega)) [List.take_succ_cons, List.take_zero, hH]; rfl)
 refine AOPS.old fun hold3 => ?_
 refine .a (near_ac (-6) (6) (by omega) (by omega) (by omega) l p2 id _ _ dl hl hp2 (by simp (disch := omega) [hH]) hold3) hb162 ?_ (ha := by simp (disch := first|omega|(simp only[ln];omega)) [idf_Wd', hH])
 rintro _ _ nx3 ⟨⟨y, rfl, y0, y1⟩, ⟨p3, hp3, rfl⟩, hnx3⟩
 try simp only [] at hnx3
 refine .e ?_ (by simp (disch := first|omega|(simp only[ln];omega)) [hH]; rfl)
 refine hK2 _ ?_
 refine .ret ?_
 exact hK _ _ _ _ _ trivial ((Fin.mk (r := .agg [.int .i64 x, .int .i64 y]) (by simp (disch := omega) [aRes, aResL, aRes1])).restr (fun i => decide (i < nx))) (⟨⟨x, y, rfl, x0, x1, y0, y1⟩, ⟨p3, hp3, by simp (disch := first | omega | (simp; done) | (simp; omega)) [hrestr_in, hrestr_out, hrestr_all hd, hupd_same]⟩, by first | omega | (simp at *; omega)⟩)

end Go.Proofs.YtaibemhdfhchfaaGreat

/- Walks: drawn points. -/
namespace Go.Proofs.YtaibemhdfhchfaaGreat
open Go Go.RowKit
set_option linter.unusedSimpArgs false
set_option linter.unusedVariables false
set_option maxRecDepth 100000
attribute [local simp] szT2 byT2 agT2 unT2 zoT2 szT3 byT3 agT3 unT3 zoT3 szT22 byT22 agT22 elT22 unT22 zoT22 szT25 byT25 agT25 unT25 zoT25 szT27 byT27 agT27 flT27 fdT27_0 fdT27_1 fdT27_2 fdT27_3 zoT27 szT29 byT29 agT29 flT29 fdT29_0 fdT29_1 fdT29_2 zoT29 szT38 byT38 agT38 flT38 fdT38_0 fdT38_1 zoT38 szT196 byT196 agT196 flT196 fdT196_0 fdT196_1 zoT196

theorem open_ac (l : List Int) (H : Heap) (nx : Nat) : ACall Tryz.prog 72 [Wd .u8 l] H nx (fun r H' nx' => r = .ptr nx 0 0 ∧ H' = hupd H nx (some (2, [[Wd .u8 l, .int .i64 0]])) ∧ nx' = nx + 1) := by
 refine .b Tryz.func72 6 fun K hK => ?_
 refine .q ?_
 refine .q ?_
 refine .ret ?_
 exact hK _ _ _ _ _ trivial (Fin.mk (r := .ptr nx 0 0) (by simp [aRes, aResL, aRes1])) (⟨rfl, by simp, by simp⟩)

end Go.Proofs.YtaibemhdfhchfaaGreat

/- Walks: FnTurns, walked. -/
namespace Go.Proofs.YtaibemhdfhchfaaGreat
open Go Go.RowKit
set_option linter.unusedSimpArgs false
set_option linter.unusedVariables false
set_option maxRecDepth 100000
attribute [local simp] szT3 byT3 agT3 unT3 zoT3 szT5 byT5 agT5 unT5 zoT5 szT22 byT22 agT22 elT22 unT22 zoT22

theorem big_fc (l : List Int) : FC Tryz.prog 14 [Wd .u8 l] (.bool (decide (1048576 < (l.length : Int)))) := by
 refine .b Tryz.func14 6 (fun nx K hK => ?_)
 refine .q ?_
 refine .q ?_ (by simp (disch := first|omega|(simp only[ln];omega)) [len_Wd (P := Tryz.prog) #[22] rfl elT22]; rfl)
 refine .ret ?_
 exact hK _ _ _ _ trivial (Fin.m)

end Go.Proofs.YtaibemhdfhchfaaGreat
