/- Areas of loops: fractions in lowest terms, added one by one. -/
import Derived.Test.YtdcajfgeleopiaaG11

namespace Go.Proofs.Ytdcajfgeleopiaa
open Go Go.RowKit

def addQ (p q : Int × Int) : Int × Int := (lowU (p.1 * q.2 + q.1 * p.2) (p.2 * q.2), lowD (p.1 * q.2 + q.1 * p.2) (p.2 * q.2))
def gp (l : List Pt) (i : Nat) : Pt := l.getD i pt0
/-- A fraction in lowest terms, its divisor above 0. -/
def redQ (p : Int × Int) : Prop := 0 < p.2 ∧ Int.gcd p.1 p.2 = 1
theorem redQ.low {p : Int × Int} (h : redQ p) : lowU p.1 p.2 = p.1 ∧ lowD p.1 p.2 = p.2 := low_uniq (by have := h.1; omega) h.1 h.2 rfl
/-- The same fraction by other numbers. -/
def eqQ (u d : Int) (p : Int × Int) : Prop := 0 < d ∧ u * p.2 = p.1 * d
theorem eqQ.low {u d : Int} {p : Int × Int} (h : eqQ u d p) (hr : redQ p) : lowU u d = p.1 ∧ lowD u d = p.2 := low_uniq (by have := h.1; omega) hr.1 hr.2 h.2.symm
theorem eqQ.step {u d c w : Int} {p : Int × Int} (h : eqQ u d p) (hr : redQ p) (hw : 0 < w) : eqQ (u * (w / gg d w) + c * (d / gg d w)) (d * (w / gg d w)) (addQ p (c, w)) := by
  obtain ⟨hd, he⟩ := h
  have hg := gg_pos (u := d) (d := w) (by omega)
  have k1 : w / gg d w * gg d w = w := Int.ediv_mul_cancel (gg_r d w)
  have m1 : d / gg d w * gg d w = d := Int.ediv_mul_cancel (gg_l d w)
  generalize gg d w = g at *
  generalize w / g = k at *
  generalize d / g = m at *
  have hk : 0 < k := by
    rcases Int.lt_trichotomy k 0 with h0 | h0 | h0
    · have := Int.mul_neg_of_neg_of_pos h0 hg; omega
    · subst h0; omega
    · exact h0
  refine ⟨Int.mul_pos hd hk, ?_⟩
  have hpw : p.2 * w ≠ 0 := Int.mul_ne_zero (by have := hr.1; omega) (by omega)
  have lc := low_cross (u := p.1 * w + c * p.2) hpw
  have lc : (addQ p (c, w)).1 * (p.2 * w) = (p.1 * w + c * p.2) * (addQ p (c, w)).2 := lc
  generalize (addQ p (c, w)).1 = U at *
  generalize (addQ p (c, w)).2 = D at *
  refine Int.eq_of_mul_eq_mul_right hpw ?_
  have e1 : U * (d * k) * (p.2 * w) = (U * (p.2 * w)) * (d * k) := by grind
  rw [e1, lc, ← k1, ← m1]
  have he2 : u * p.2 = p.1 * (m * g) := by rw [m1]; exact he
  have e2 : (u * k + c * m) * D * (p.2 * (k * g)) = (D * k * g) * (k * (u * p.2) + c * m * p.2) := by grind
  rw [e2, he2]
  grind
theorem eqQ.one : eqQ 0 1 (0, 1) := ⟨by decide, rfl⟩
end Go.Proofs.Ytdcajfgeleopiaa

/- Rings turned. -/
namespace Go.Proofs.Ytdcajfgeleopiaa
open Go Go.RowKit

/-- Rows of two numbers, as they are marked. -/
def m2 (k : Int) (j : Nat) : List AV := [.int .i64 (k + 2 * (j : Int)), .int .i64 (k + 2 * (j : Int) + 1)]
theorem lv_int (H : Heap) (k : Nat) (t : IntKind) (n : Int) : lv H k (.int t n) = .int t n := by cases k <;> rfl
theorem lv_sp (H : Heap) (k : Nat) : (List.map (lv H k) ∘ Sp.cells) = Sp.cells := by funext p; simp [Sp.cells, lv_int]
end Go.Proofs.Ytdcajfgeleopiaa

/- Points halved, squares of distances: the plain laws. -/
namespace Go.Proofs.Ytdcajfgeleopiaa
open Go Go.RowKit

theorem told_scale {u d u' d' : Int} (h : d ≠ 0) (h' : d' ≠ 0) (e : u * d' = u' * d) : told u d = told u' d' := by
  have c := @low_cross u' d' h'
  obtain ⟨e1, e2⟩ := low_uniq (u := u) (d := d) h (lowD_pos (u := u') h') (low_red h') (by
    have : lowU u' d' * d * d' = u * lowD u' d' * d' := by grind
    exact Int.eq_of_mul_eq_mul_right h' this)
  rw [told_fit h, told_fit h', e1, e2]
def dX (p q : Pt) : Int := p.x.v * q.w.v - q.x.v * p.w.v
def dY (p q : Pt) : Int := p.y.v * q.w.v - q.y.v * p.w.v
def dN (p q : Pt) : Int := dX p q * dX p q + dY p q * dY p q
def dD (p q : Pt) : Int := (p.w.v * q.w.v) * (p.w.v * q.w.v)
def d2F (p q : Pt) : Rt × Bool := if (p.good && q.good) = true then told (dN p q) (dD p q) else (Rt0, false)
theorem d2F_good {p q : Pt} (hp : p.good = true) (hq : q.good = true) : d2F p q = told (dN p q) (dD p q) := by unfold d2F; rw [hp, hq]; rfl
theorem dD_pos {p q : Pt} (hp : p.good = true) (hq : q.good = true) : 0 < dD p q := by
  have := Int.mul_pos (good_pos hp) (good_pos hq)
  exact Int.mul_pos this this
/-- What a middle is. -/
structure Mid (p q m : Pt) : Prop where
  gp : p.good = true
  gq : q.good = true
  gm : m.good = true
  hx : m.x.v * (2 * (p.w.v * q.w.v)) = (p.x.v * q.w.v + q.x.v * p.w.v) * m.w.v
  hy : m.y.v * (2 * (p.w.v * q.w.v)) = (p.y.v * q.w.v + q.y.v * p.w.v) * m.w.v
section
variable {p q m : Pt} (M : Mid p q m)
include M
theorem Mid.dx1 : dX p m * (2 * (p.w.v * q.w.v)) = dX p q * (m.w.v * p.w.v) := by have := M.hx; unfold dX; grind
theorem Mid.dy1 : dY p m * (2 * (p.w.v * q.w.v)) = dY p q * (m.w.v * p.w.v) := by have := M.hy; unfold dY; grind
theorem Mid.dx2 : dX m q * (2 * (p.w.v * q.w.v)) = dX p q * (m.w.v * q.w.v) := by have := M.hx; unfold dX; grind
theorem Mid.dy2 : dY m q * (2 * (p.w.v * q.w.v)) = dY p q * (m.w.v * q.w.v) := by have := M.hy; unfold dY; grind
theorem Mid.d1 : d2F p m = told (dN p q) (4 * dD p q) := by
  rw [d2F_good M.gp M.gm]
  have a := dD_pos M.gp M.gq
  have b := dD_pos M.gp M.gm
  have h1 := M.dx1
  have h2 := M.dy1
  refine told_scale (by omega) (by omega) ?_
  unfold dN dD; grind
theorem Mid.d2 : d2F m q = told (dN p q) (4 * dD p q) := by
  rw [d2F_good M.gm M.gq]
  have a := dD_pos M.gp M.gq
  have b := dD_pos M.gm M.gq
  have h1 := M.dx2
  have h2 := M.dy2
  refine told_scale (by omega) (by omega) ?_
  unfold dN dD; grind
end
end Go.Proofs.Ytdcajfgeleopiaa

/- Layers: faults, sides, depths, areas. -/
namespace Go.Proofs.Ytdcajfgeleopiaa
open Go Go.RowKit

def gr (L : List (List Sp)) (i : Nat) : List Sp := L.getD i []
theorem gr_get {L : List (List Sp)} {i : Nat} (h : i < L.length) : L[i]? = some (gr L i) := by simp [gr, h]
theorem gr_mem {L : List (List Sp)} {i : Nat} (h : i < L.length) : gr L i ∈ L := List.mem_of_getElem? (gr_get h)
theorem drop_gr {L : List (List Sp)} {i : Nat} (h : i < L.length) : L.drop i = gr L i :: L.drop (i + 1) := by
  rw [List.drop_eq_getElem_cons h]; simp [gr, h]
theorem take_gr {L : List (List Sp)} {i : Nat} (h : i < L.length) : L.take (i + 1) = L.take i ++ [gr L i] := by
  rw [List.take_add_one, gr_get h]; rfl
def lyN : List (List Sp) → Nat
  | [] => 0
  | r :: R => r.length + lyN R
theorem lyN_app : ∀ (L M : List (List Sp)), lyN (L ++ M) = lyN L + lyN M
  | [], M => by simp [lyN]
  | r :: R, M => by simp only [List.cons_append, lyN, lyN_app R M]; omega
theorem lyN_step {L : List (List Sp)} {i : Nat} (h : i < L.length) : lyN (L.take (i + 1)) = lyN (L.take i) + (gr L i).length := by
  rw [take_gr h, lyN_app]; simp [lyN]
theorem lyN_b {c : Nat} : ∀ (L : List (List Sp)), (∀ r ∈ L, r.length ≤ c) → lyN L ≤ c * L.length
  | [], _ => by simp [lyN]
  | r :: R, h => by
    have h1 := h r (by simp)
    have h2 := lyN_b R fun x hx => h x (by simp [hx])
    simp only [lyN, List.length_cons, Nat.mul_succ]; omega
theorem lyN_take_b {c : Nat} (L : List (List Sp)) (i : Nat) (h : ∀ r ∈ L, r.length ≤ c) (hi : i ≤ L.length) : lyN (L.take i) ≤ c * i := by
  have := lyN_b (c := c) (L.take i) fun r hr => h r (List.mem_of_mem_take hr)
  rw [List.length_take, Nat.min_eq_left hi] at this; exact this
noncomputable def lyA : List (List Sp) → Nat → Option (Int × Int)
  | [], _ => none
  | r :: R, i => if rgF r = 0 then lyA R (i + 1) else some (10 + rgF r, (i : Int))
noncomputable def lyB : List (List Sp) → List (List Sp) → Nat → Option (Int × Int)
  | _, [], _ => none
  | pre, r :: R, i => if pre.any (rgsM r) = true then some (3, (i : Int)) else lyB (pre ++ [r]) R (i + 1)
theorem lyA_step {L : List (List Sp)} {i : Nat} (h : i < L.length) : lyA (L.drop i) i = if rgF (gr L i) = 0 then lyA (L.drop (i + 1)) (i + 1) else some (10 + rgF (gr L i), (i : Int)) := by rw [drop_gr h, lyA]
theorem lyA_end {L : List (List Sp)} {i : Nat} (h : L.length ≤ i) : lyA (L.drop i) i = none := by rw [List.drop_eq_nil_of_le h]; rfl
theorem lyB_step {L : List (List Sp)} {i : Nat} (h : i < L.length) : lyB (L.take i) (L.drop i) i = if (L.take i).any (rgsM (gr L i)) = true then some (3, (i : Int)) else lyB (L.take (i + 1)) (L.drop (i + 1)) (i + 1) := by rw [drop_gr h, lyB, take_gr h]
theorem lyB_end {L : List (List Sp)} {i : Nat} (h : L.length ≤ i) : lyB (L.take i) (L.drop i) i = none := by rw [List.drop_eq_nil_of_le h]; cases L.take i <;> rfl
theorem any_take {L : List (List Sp)} {i : Nat} {f : List Sp → Bool} (hi : i ≤ L.length) : (L.take i).any f = true ↔ ∃ k, k < i ∧ f (gr L k) = true := by
  rw [List.any_eq_true]
  constructor
  · rintro ⟨r, hr, hf⟩
    obtain ⟨k, hk, e⟩ := List.mem_iff_getElem.1 hr
    rw [List.length_take] at hk
    rw [List.getElem_take] at e
    refine ⟨k, by omega, ?_⟩
    have : gr L k = r := by rw [← e]; simp [gr, show k < L.length by omega]
    rw [this]; exact hf
  · rintro ⟨k, hk, hf⟩
    refine ⟨gr L k, ?_, hf⟩
    have e : (L.take i)[k]? = some (gr L k) := by rw [List.getElem?_take_of_lt hk]; exact gr_get (by omega)
    exact List.mem_of_getElem? e
noncomputable def lyF (L : List (List Sp)) : Int × Int := if 6 < L.length then (1, 0) else if 20 < lyN L then (2, 0) else (lyA L 0).getD ((lyB [] L 0).getD (0, 0))
theorem lyF_many {L : List (List Sp)} (h : 6 < L.length) : lyF L = (1, 0) := by unfold lyF; rw [if_pos h]
theorem lyF_spots {L : List (List Sp)} (h : ¬ 6 < L.length) (h2 : 20 < lyN L) : lyF L = (2, 0) := by unfold lyF; rw [if_neg h, if_pos h2]
theorem lyF_go {L : List (List Sp)} (h : ¬ 6 < L.length) (h2 : ¬ 20 < lyN L) : lyF L = (lyA (L.drop 0) 0).getD ((lyB [] L 0).getD (0, 0)) := by unfold lyF; rw [if_neg h, if_neg h2]; rfl
structure LyOk (L : List (List Sp)) : Prop where
  len : L.length ≤ 6
  spots : lyN L ≤ 20
  ok : ∀ r ∈ L, rgF r = 0
  apart : ∀ i k, i < L.length → k < L.length → k ≠ i → rgsM (gr L i) (gr L k) = false
/-! Where a point lies to a layer. -/
/-! Depths. -/
/-! Areas. -/
end Go.Proofs.Ytdcajfgeleopiaa

/- Rows of rings: sizes. -/
namespace Go.Proofs.Ytdcajfgeleopiaa
open Go Go.RowKit

def rgC (r : List Sp) : List AV := [.isl (r.map Sp.cells)]
def rgs (L : List (List Sp)) : AV := .isl (L.map rgC)
/-- What is left of a bound behind each ring; -1: nothing. -/
def srGo : List (List Sp) → Int → Int
  | [], n => n
  | r :: R, n => if n - r.length < 0 then -1 else srGo R (n - r.length)
def srA (L : List (List Sp)) (n : Int) : Int := if n - L.length < 0 then -1 else srGo L (n - L.length)
theorem srGo_drop {L : List (List Sp)} {i : Nat} {l : List Sp} (h : L[i]? = some l) (n : Int) : srGo (L.drop i) n = if n - l.length < 0 then -1 else srGo (L.drop (i + 1)) (n - l.length) := by
  obtain ⟨hi, e⟩ := List.getElem?_eq_some_iff.1 h
  rw [List.drop_eq_getElem_cons hi, e]; rfl
theorem srGo_end (L : List (List Sp)) (n : Int) : srGo (L.drop L.length) n = n := by rw [List.drop_length]; rfl
theorem srGo_b : ∀ (L : List (List Sp)) (n : Int), 0 ≤ n → ¬ srGo L n < 0 → (∀ r ∈ L, (r.length : Int) ≤ n) ∧ (lyN L : Int) ≤ n
  | [], n, h0, _ => ⟨fun r h => by simp at h, by simpa [lyN] using h0⟩
  | r :: R, n, h0, h => by
    unfold srGo at h
    split at h
    · omega
    · rename_i h1
      obtain ⟨a, b⟩ := srGo_b R (n - r.length) (by omega) h
      refine ⟨fun x hx => ?_, by simp only [lyN]; omega⟩
      rcases List.mem_cons.1 hx with rfl | hx
      · omega
      · have := a x hx; omega
theorem srA_b {L : List (List Sp)} {n : Int} (h : ¬ srA L n < 0) : (L.length : Int) ≤ n ∧ (∀ r ∈ L, (r.length : Int) ≤ n) ∧ (lyN L : Int) ≤ n := by
  unfold srA at h
  split at h
  · omega
  · rename_i h1
    obtain ⟨a, b⟩ := srGo_b L _ (by omega) h
    exact ⟨by omega, fun r hr => by have := a r hr; omega, by omega⟩
/-- The first ring of which something is so. -/
def ixF (f : List Sp → Bool) : List (List Sp) → Nat → Int
  | [], _ => -1
  | x :: r, k => if f x = true then (k : Int) else ixF f r (k + 1)
theorem ixF_any (f : List Sp → Bool) : ∀ (l : List (List Sp)) (k : Nat), (0 ≤ ixF f l k) ↔ l.any f = true
  | [], k => by simp [ixF]
  | x :: r, k => by
    unfold ixF
    split
    · rename_i h; simp [h]
    · rename_i h; rw [ixF_any f r (k + 1)]; simp [h]
theorem ixF_dec (f : List Sp → Bool) (l : List (List Sp)) : decide (0 ≤ ixF f l 0) = l.any f := by
  rw [Bool.eq_iff_iff, decide_eq_true_eq]; exact ixF_any f l 0
end Go.Proofs.Ytdcajfgeleopiaa

/- Walks: rows of rings: the laws' own functions. -/
namespace Go.Proofs.Ytdcajfgeleopiaa
open Go Go.RowKit
set_option linter.unusedSimpArgs false
set_option linter.unusedVariables false
set_option maxRecDepth 100000
attribute [local simp] szT3 byT3 agT3 unT3 zoT3 szT35 byT35 agT35 elT35 unT35 zoT35 szT37 byT37 agT37 flT37 fdT37_0 zoT37 szT41 byT41 agT41 elT41 unT41 zoT41 szT43 byT43 agT43 flT43 fdT43_0 zoT43 szT57 byT57 agT57 elT57 unT57 zoT57 szT61 byT61 agT61 elT61 unT61 zoT61

section
attribute [local simp] Sp.av Sp.cells Sg.av Sg.cells
set_option maxHeartbeats 1000000 in
theorem szRingS_fc (L : List (List Sp)) (hl : L.length ≤ 9223372036854775807) (hl2 : ∀ l ∈ L, l.length ≤ 9223372036854775807) : FC Try.prog 32 [rgs L, .int .i64 1048576] (.int .i64 (srA L 1048576)) := by
 refine .b Try.func32 27 (fun nx K hK => ?_) (hi := by simp [idfL, idf, idfLL_iff, rgs, rgC, Sp.cells])
 refine .q ?_
 refine .q ?_ (by simp (disch := first|omega|(simp only[ln];omega)) [rgs, List.length_map]; rfl)
 refine .sq fun K3 hK3 => ?_
 refine .q ?_
 refine .c (fun h11 => ?_) (fun h11 => ?_)
 ·try simp only[dc]at h11
  refine .q ?_
  refine .ret ?_
  exact hK _ _ _ _ trivial ((Fin.m).cast (by unfold srA; rw [if_pos (by omega)]))
 ·try simp only[dc]at h11
  have hv0 : srA L 1048576 = srGo (L.drop 0) (1048576 - (L.length : Int)) := by unfold srA; rw [if_neg (by omega), List.drop_zero]
  refine .skip ?_
  refine hK3 _ ?_
  refine .sq fun K6 hK6 => ?_
  refine .q ?_
  refine .block ?_
  refine .loop (fun N s => ∃ (i : Nat) (n : Int), N = L.length - i ∧ i ≤ L.length ∧ 0 ≤ n ∧ n ≤ 1048576 ∧ srA L 1048576 = srGo (L.drop i) n ∧ s.env 0 = rgs L ∧ s.env 1 = .int .i64 n ∧ s.env 5 = .int .i64 (i : Int) ∧ s.nt = 27) (L.length) (⟨0, 1048576 - (L.length : Int), by omega, by omega, by omega, by omega, hv0, by simp [rgs], by simp, by simp, rfl⟩) ?_
  rintro N ⟨e, H, mm, nt⟩ ⟨i, n, rfl, hi, hn0, hn1, hv, h0, h1, h5, rfl⟩
  simp only [] at h0 h1 h5
  refine .sq fun K8 hK8 => ?_
  refine .q ?_ (by simp (disch := first|omega|(simp only[ln];omega)) [h0, h5, rgs, List.length_map]; rfl)
  refine .c (fun h15 => ?_) (fun h15 => ?_)
  ·try simp only[dc]at h15
   have hi' : i < L.length := by omega
   obtain ⟨l, hli⟩ : ∃ l, L[i]? = some l := ⟨L[i], by simp [hi']⟩
   have hmi : (L.map rgC)[i]? = some (rgC l) := by rw [List.getElem?_map, hli]; rfl
   have hmem := List.mem_of_getElem? hli
   have hll := hl2 l hmem
   rw [srGo_drop hli] at hv
   refine .skip ?_
   refine hK8 _ ?_
   refine .sq fun K10 hK10 => ?_
   refine .block ?_
   refine .sq fun K11 hK11 => ?_
   refine .region ?_
   refine .kf 5 (szRing_fc l n hn0 (by omega) hll) hb17 ?_ (by simp (disch := first|omega|(simp only[ln];omega)) [List.take_succ_cons, List.take_zero, if_pos, h0, h1, h5, rgs, hmi, rgC, List.length_map]; rfl) (ha := by simp (disch := first|omega|(simp only[ln];omega)) [idf_Wd', if_pos, h0, h1, h5, rgs, hmi, rgC, List.length_map])
   refine .e ?_ (by simp (disch := first|omega|(simp only[ln];omega)) [if_pos, h0, h1, h5, rgs, hmi, rgC, List.length_map]; rfl)
   refine hK11 _ ?_
   refine .q ?_
   refine .c (fun h25 => ?_) (fun h25 => ?_)
   ·try simp only[dc]at h25
    have hng : n - (l.length : Int) < 0 := by
      unfold szN at h25
      split at h25
      · assumption
      · omega
    refine .q ?_
    refine .ret ?_
    exact hK _ _ _ _ trivial ((Fin.m).cast (by rw [hv, if_pos hng]))
   ·try simp only[dc]at h25
    have hng : ¬ n - (l.length : Int) < 0 := fun h => by
      unfold szN at h25
      rw [if_pos h] at h25; omega
    refine .skip ?_
    refine hK10 _ ?_
    refine .r ?_ (by simp (disch := first|omega|(simp only[ln];omega)) [h5]; rfl)
    refine ⟨L.length - (i + 1), by omega, i + 1, n - (l.length : Int), rfl, by omega, by omega, by omega, by rw [hv, if_neg hng], by simp [h0], by simp [szN, hng], by simp (disch := omega) [h5], rfl⟩
  ·try simp only[dc]at h15
   have hin : i = L.length := by omega
   rw [hin, srGo_end] at hv
   refine .exit ?_
   refine hK6 _ ?_
   refine .q ?_ (by simp (disch := first|omega|(simp only[ln];omega)) [h1]; rfl)
   refine .ret ?_
   exact hK _ _ _ _ trivial ((Fin.m).cast (by rw [hv]))
set_option maxHeartbeats 1000000 in
theorem toRingS_fc (L : List (List Sp)) (hl : L.length ≤ 1048576) (hl2 : ∀ l ∈ L, l.length ≤ 1048576) : FC Try.prog 34 [rgs L] (rgs L) := by
 refine .b Try.func34 23 (fun nx K hK => ?_) (hi := by simp [idfL, idf, idfLL_iff, rgs, rgC, Sp.cells]) (hr := by simp [idfL, idf, idfLL_iff, rgs, rgC, Sp.cells])
 unfold rgs
 refine .q ?_
 refine .q ?_ (by simp (disch := first|omega|(simp only[ln];omega)) [if_pos, List.length_map]; rfl)
 refine .sq fun K3 hK3 => ?_
 refine .q ?_
 refine .block ?_
 refine .loop (fun N s => ∃ i id : Nat, N = L.length - i ∧ i ≤ L.length ∧ s.env 0 = .isl (L.map rgC) ∧ s.env 3 = .osl id 0 L.length ∧ s.env 4 = .int .i64 (i : Int) ∧ s.heap id = some (1, fillR rgC [.nsl] L i) ∧ s.nt = 23) (L.length) (⟨0, nx, by omega, by omega, by simp, by simp, by simp, by simp [← fillR_zero], rfl⟩) ?_
 rintro N ⟨e, H, mm, nt⟩ ⟨i, id, rfl, hi, h0, h3, h4, hH, rfl⟩
 simp only [] at h0 h3 h4 hH
 refine .sq fun K5 hK5 => ?_
 refine .q ?_ (by simp (disch := first|omega|(simp only[ln];omega)) [h0, h4, List.length_map]; rfl)
 refine .c (fun h11 => ?_) (fun h11 => ?_)
 ·try simp only[dc]at h11
  have hi' : i < L.length := by omega
  obtain ⟨l, hli⟩ : ∃ l, L[i]? = some l := ⟨L[i], by simp [hi']⟩
  have hmi : (L.map rgC)[i]? = some (rgC l) := by rw [List.getElem?_map, hli]; rfl
  have hmem := List.mem_of_getElem? hli
  have fst := fillR_set rgC [.nsl] L hli
  simp only [rgC] at fst
  have fl := fillR_len rgC [.nsl] L hi
  have fg := fillR_getE rgC [.nsl] L hi'
  refine .skip ?_
  refine hK5 _ ?_
  refine .sq fun K7 hK7 => ?_
  refine .block ?_
  refine .region ?_
  refine .kf 6 (toRing_fc l (hl2 l hmem)) hb19 ?_ (by simp (disch := first|omega|(simp only[ln];omega)) [List.take_succ_cons, List.take_zero, if_pos, h0, h3, h4, hH, fl, fg, hmi, rgC, List.length_map]; rfl) (ha := by simp (disch := first|omega|(simp only[ln];omega)) [idf_Wd', if_pos, h0, h3, h4, hH, fl, fg, hmi, rgC, List.length_map])
  refine .e ?_ (by simp (disch := first|omega|(simp only[ln];omega)) [if_pos, h0, h3, h4, hH, fl, fg, hmi, rgC, List.length_map]; rfl)
  refine hK7 _ ?_
  refine .r ?_ (by simp (disch := first|omega|(simp only[ln];omega)) [h4]; rfl)
  refine ⟨L.length - (i + 1), by omega, i + 1, id, rfl, by omega, by simp [h0], by simp [h3], by simp (disch := omega) [h4], by simp [fst], rfl⟩
 ·try simp only[dc]at h11
  have hin : i = L.length := by omega
  rw [hin, fillR_all] at hH
  refine .exit ?_
  refine hK3 _ ?_
  refine .q ?_ (by simp (disch := first|omega|(simp only[ln];omega)) [h3]; rfl)
  refine .ret ?_
  exact hK _ _ _ _ trivial (((Fin.mk (r := .osl id 0 L.length) (by simp [aRes, aResL, aRes1])).freeze (id := id) (z := 1) (es := L.map rgC) (by simp [hH])).cast (fz_fill _ _ rfl))
set_option maxHeartbeats 1000000 in
theorem eqRingS_fc (L : List (List Sp)) (hl : L.length ≤ 9223372036854775807) (hl2 : ∀ l ∈ L, l.length ≤ 9223372036854775807) : FC Try.prog 36 [rgs L, rgs L] (.bool true) := by
 refine .b Try.func36 27 (fun nx K hK => ?_) (hi := by simp [idfL, idf, idfLL_iff, rgs, rgC, Sp.cells])
 refine .q ?_
 refine .sq fun K2 hK2 => ?_
 refine .q ?_ (by simp (disch := first|omega|(simp only[ln];omega)) [rgs, List.length_map]; rfl)
 refine .c (fun h10 => ?_) (fun h10 => ?_)
 ·simp at h10
 ·try simp only[dc]at h10
  refine .skip ?_
  refine hK2 _ ?_
  refine .sq fun K4 hK4 => ?_
  refine .q ?_
  refine .block ?_
  refine .loop (fun N s => ∃ i : Nat, N = L.length - i ∧ i ≤ L.length ∧ s.env 0 = rgs L ∧ s.env 1 = rgs L ∧ s.env 5 = .int .i64 (i : Int) ∧ s.nt = 27) (L.length) (⟨0, by omega, by omega, by simp [rgs], by simp [rgs], by simp, rfl⟩) ?_
  rintro N ⟨e, H, mm, nt⟩ ⟨i, rfl, hi, h0, h1, h5, rfl⟩
  simp only [] at h0 h1 h5
  refine .sq fun K6 hK6 => ?_
  refine .q ?_ (by simp (disch := first|omega|(simp only[ln];omega)) [h0, h5, rgs, List.length_map]; rfl)
  refine .c (fun h14 => ?_) (fun h14 => ?_)
  ·try simp only[dc]at h14
   have hi' : i < L.length := by omega
   obtain ⟨l, hli⟩ : ∃ l, L[i]? = some l := ⟨L[i], by simp [hi']⟩
   have hmi : (L.map rgC)[i]? = some (rgC l) := by rw [List.getElem?_map, hli]; rfl
   have hmem := List.mem_of_getElem? hli
   refine .skip ?_
   refine hK6 _ ?_
   refine .sq fun K8 hK8 => ?_
   refine .block ?_
   refine .sq fun K9 hK9 => ?_
   refine .d 10 ?_
   refine .k 8 (fun fs10 hfs10 => ?_) (by simp (disch := first|omega|(simp only[ln];omega)) [runDf.eq_def, runF1, runF2, stepF.eq_def, updo.eq_def, hupo.eq_def, opSto1.eq_def, List.take_succ_cons, List.take_zero, if_pos, h0, h1, h5, hmi, rgs, rgC, List.length_map]; rfl)
   refine .f (eqRing_fc l (hl2 l hmem)) hb22 ?_ (ha := by simp (disch := first|omega|(simp only[ln];omega)) [idf_Wd', if_pos, h0, h1, h5, hmi, rgs, rgC, List.length_map])
   refine .k 1 (fun fs11 hfs11 => ?_) (by simp (disch := first|omega|(simp only[ln];omega)) [runDf.eq_def, runF1, runF2, stepF.eq_def, updo.eq_def, hupo.eq_def, opSto1.eq_def, List.take_succ_cons, List.take_zero, if_pos, h0, h1, h5, hmi, rgs, rgC, List.length_map]; rfl)
   refine .r 10 (by simp only[ln, hfs10, hfs11];omega) ?_ (by simp (disch := first|omega|(simp only[ln];omega)) [runDf.eq_def, runF1, runF2, stepF.eq_def, updo.eq_def, hupo.eq_def, opSto1.eq_def, if_pos, h0, h1, h5, hmi, rgs, rgC, List.length_map]; rfl)
   refine hK9 _ ?_
   refine .c (fun h26 => ?_) (fun h26 => ?_)
   ·simp at h26
   ·try simp only[dc]at h26
    refine .skip ?_
    refine hK8 _ ?_
    refine .r ?_ (by simp (disch := first|omega|(simp only[ln];omega)) [h5]; rfl)
    refine ⟨L.length - (i + 1), by omega, i + 1, rfl, by omega, by simp [h0], by simp [h1], by simp (disch := omega) [h5], rfl⟩
  ·try simp only[dc]at h14
   refine .exit ?_
   refine hK4 _ ?_
   refine .q ?_
   refine .ret ?_
   exact hK _ _ _ _ trivial ((Fin.m))
end

end Go.Proofs.Ytdcajfgeleopiaa

/- Walks: faults of layers; FnExactLayerFault, walked. -/
namespace Go.Proofs.Ytdcajfgeleopiaa
open Go Go.RowKit
set_option linter.unusedSimpArgs false
set_option linter.unusedVariables false
set_option maxRecDepth 100000
attribute [local simp] szT2 byT2 agT2 unT2 zoT2 szT3 byT3 agT3 unT3 zoT3 szT41 byT41 agT41 elT41 unT41 zoT41 szT43 byT43 agT43 flT43 fdT43_0 zoT43 szT61 byT61 agT61 elT61 unT61 zoT61 szT102 byT102 agT102 flT102 fdT102_0 fdT102_1 zoT102

theorem hbLF : hasBody Try.prog 81 = true := hb81
theorem gr_at {L : List (List Sp)} {i : Nat} (h : i < L.length) : (L.map rgC)[i]? = some [.isl ((gr L i).map Sp.cells)] := by rw [List.getElem?_map, gr_get h]; rfl
theorem lv_rgC (H : Heap) (k : Nat) (L : List (List Sp)) : List.map (List.map (lv H (k + 1))) (L.map rgC) = L.map rgC := by
  rw [List.map_map]; congr 1; funext r; simp [rgC, lv, lv_sp]
theorem lv_rgD (H : Heap) (L : List (List Sp)) : List.map (List.map (lv H 3) ∘ rgC) L = L.map rgC := by
  congr 1; funext r; simp [rgC, lv, lv_sp]
theorem rgC_len (L : List (List Sp)) : (∀ c ∈ L.map rgC, c.length = 1) = True := by
  simp only [eq_iff_iff, iff_true]
  intro c hc
  obtain ⟨p, _, rfl⟩ := List.mem_map.1 hc
  rfl
theorem rgC_lenx (L : List (List Sp)) : (∀ a ∈ L, 1 = (rgC a).length) = True := by
  simp only [eq_iff_iff, iff_true]
  intro c _; rfl
section
attribute [local simp] Sp.av Sp.cells Sg.av Sg.cells
theorem layerFault1_fc (a b : List Sp) (za : rgF a = 0) (zb : rgF b = 0) : FC Try.prog 81 [.agg [.isl (b.map Sp.cells)], .ip [.isl (a.map Sp.cells)]] (.bool (rgsM a b)) := by
 refine .b Try.func81 7 (fun nx K hK => ?_) (hi := by simp [idfL, idf, idfLL_iff, Sp.av, Sp.cells, Sg.av, Sg.cells])
 refine .q ?_
 refine .sq fun K2 hK2 => ?_
 refine .region ?_
 refine .kf 2 (ringsMeetI_fc a b za zb) hb82 ?_
 refine .e ?_
 refine hK2 _ ?_
 refine .ret ?_
 exact hK _ _ _ _ trivial (Fin.m)
set_option maxHeartbeats 1000000 in
theorem indexLF_fc (a : List Sp) (L : List (List Sp)) (za : rgF a = 0) (zL : ∀ r ∈ L, rgF r = 0) (hl : L.length ≤ 1099511627776) : FC Try.prog 130 [.isl (L.map rgC), .fn 81 [.ip [.isl (a.map Sp.cells)]]] (.int .i64 (ixF (rgsM a) L 0 : Int)) := by
 refine .b Try.func130 19 (fun nx K hK => ?_) (hi := by simp [idfL, idf, idfLL_iff, rgC, Sp.cells])
 refine .q ?_
 refine .sq fun K2 hK2 => ?_
 refine .q ?_ (by simp (disch := first|omega|(simp only[ln];omega)) [List.length_map]; rfl)
 refine .block ?_
 
 refine .loop (fun N s => ∃ i : Nat, N = L.length - i ∧ i ≤ L.length ∧ (ixF (rgsM a) L 0 = ixF (rgsM a) (L.drop i) i) ∧ s.env 0 = .isl (L.map rgC) ∧ s.env 1 = .fn 81 [.ip [.isl (a.map Sp.cells)]] ∧ s.env 7 = .int .i64 (L.length : Int) ∧ s.env 8 = .int .i64 (i : Int) ∧ s.nt = 19) (L.length) (by refine ⟨0, by omega, by omega, rfl, ?_, ?_, ?_, ?_, rfl⟩ <;> first|(simp (disch := omega);done)|omega|(simp;done)|(simp;omega)) ?_
 rintro N ⟨e, H, mm, nt⟩ ⟨i, rfl, hi, hv, g0, g1, g7, g8, rfl⟩
 simp only [] at g0 g1 g7 g8
 refine .q ?_ (by simp (disch := first|omega|(simp only[ln];omega)) [g7, g8]; rfl)
 refine .sq fun K5 hK5 => ?_
 refine .c (fun h9 => ?_) (fun h9 => ?_)
 ·try simp only[dc]at h9
  have hi' : i < L.length := by omega
  have hat := gr_at hi'
  rw [drop_gr hi', ixF] at hv
  have zb := zL _ (gr_mem hi')
  refine .skip ?_
  refine hK5 _ ?_
  refine .sq fun K6 hK6 => ?_
  refine .block ?_
  refine .q ?_ (by simp (disch := first|omega|(simp only[ln];omega)) [g8]; rfl)
  refine .sq fun K8 hK8 => ?_
  refine .region ?_
  refine .k 5 ?_ (by simp (disch := first|omega|(simp only[ln];omega)) [List.take_succ_cons, List.take_zero, if_pos, g0, g1, g8, hat, List.length_map]; rfl)
  refine AOPS.fcall (layerFault1_fc a (gr L i) za zb) rfl rfl (by simp; rfl) hbLF (by simp (disch := first|omega|(simp only[ln];omega)) [idf_Wd', g0, g1, g8, hat, List.length_map]) (by simp (disch := first|omega|(simp only[ln];omega)) [g0, g1, g8, hat, List.length_map]) (by simp) ?_
  simp only [puts_some, updo]
  refine .nil ?_
  refine hK8 _ ?_
  refine .c (t := rgsM a (gr L i)) (fun h16 => ?_) (fun h16 => ?_)
  ·try simp only[dc]at h16
   rw [if_pos h16] at hv
   refine .q ?_ (by simp (disch := first|omega|(simp only[ln];omega)) [g8]; rfl)
   refine .ret ?_
   exact hK _ _ _ _ trivial ((Fin.m).cast (by rw [hv]))
  ·try simp only[dc]at h16
   rw [if_neg (by rw [h16]; simp)] at hv
   refine .skip ?_
   refine hK6 _ ?_
   refine .r ?_ (by simp (disch := first|omega|(simp only[ln];omega)) [g8]; rfl)
   refine ⟨L.length - (i + 1), by omega, i + 1, rfl, by omega, hv, ?_, ?_, ?_, ?_, rfl⟩ <;> first|(simp (disch := omega) [g0, g1, g7, g8];done)|omega|(simp;done)|(simp;omega)
 ·try simp only[dc]at h9
  have hin : i = L.length := by omega
  rw [hin, List.drop_length, ixF] at hv
  refine .exit ?_
  refine hK2 _ ?_
  refine .q ?_
  refine .ret ?_
  exact hK _ _ _ _ trivial ((Fin.m).cast (by rw [hv]))
theorem containsLF_fc (a : List Sp) (L : List (List Sp)) (za : rgF a = 0) (zL : ∀ r ∈ L, rgF r = 0) (hl : L.length ≤ 1099511627776) : FC Try.prog 80 [.isl (L.map rgC), .fn 81 [.ip [.isl (a.map Sp.cells)]]] (.bool (L.any (rgsM a))) := by
 refine .b Try.func80 9 (fun nx K hK => ?_) (hi := by simp [idfL, idf, idfLL_iff, rgC, Sp.cells])
 refine .q ?_
 refine .sq fun K2 hK2 => ?_
 refine .region ?_
 refine .kf 2 (indexLF_fc a L za zL hl) hb130 ?_
 refine .e ?_
 refine hK2 _ ?_
 refine .ret ?_
 exact hK _ _ _ _ trivial ((Fin.m).cast (by rw [ixF_dec]))
set_option maxHeartbeats 1000000 in
theorem spotsIn_fc (L : List (List Sp)) (h6 : L.length ≤ 6) (hl2 : ∀ r ∈ L, r.length ≤ 1099511627776) : FC Try.prog 79 [.isl (L.map rgC)] (.int .i64 (lyN L : Int)) := by
 refine .b Try.func79 19 (fun nx K hK => ?_) (hi := by simp [idfL, idf, idfLL_iff, rgC, Sp.cells])
 refine .q ?_
 refine .q ?_
 refine .sq fun K3 hK3 => ?_
 refine .q ?_ (by simp (disch := first|omega|(simp only[ln];omega)) [List.length_map]; rfl)
 refine .block ?_
 
 refine .loop (fun N s => ∃ i : Nat, N = L.length - i ∧ i ≤ L.length ∧ s.env 3 = .int .i64 (lyN (L.take i) : Int) ∧ s.env 6 = .isl (L.map rgC) ∧ s.env 7 = .int .i64 (L.length : Int) ∧ s.env 8 = .int .i64 (i : Int) ∧ s.nt = 19) (L.length) (by refine ⟨0, by omega, by omega, ?_, ?_, ?_, ?_, rfl⟩ <;> first|(simp (disch := omega) [lyN];done)|omega|(simp;done)|(simp;omega)) ?_
 rintro N ⟨e, H, mm, nt⟩ ⟨i, rfl, hi, g3, g6, g7, g8, rfl⟩
 simp only [] at g3 g6 g7 g8
 refine .q ?_ (by simp (disch := first|omega|(simp only[ln];omega)) [g7, g8]; rfl)
 refine .sq fun K6 hK6 => ?_
 refine .c (fun h9 => ?_) (fun h9 => ?_)
 ·try simp only[dc]at h9
  have hi' : i < L.length := by omega
  have hat := gr_at hi'
  have hlr := hl2 _ (gr_mem hi')
  have hst := lyN_step hi'
  have hb := lyN_take_b (c := 1099511627776) L (i + 1) hl2 (by omega)
  have hb2 := lyN_take_b (c := 1099511627776) L i hl2 (by omega)
  refine .skip ?_
  refine hK6 _ ?_
  refine .sq fun K7 hK7 => ?_
  refine .block ?_
  refine .q ?_ (by simp (disch := first|omega|(simp only[ln];omega)) [if_pos, g6, g8, hat, List.length_map]; rfl)
  refine .r ?_ (by simp (disch := first|omega|(simp only[ln];omega)) [g3, hst, List.length_map]; rfl)
  refine hK7 _ ?_
  refine .r ?_ (by simp (disch := first|omega|(simp only[ln];omega)) [g8]; rfl)
  refine ⟨L.length - (i + 1), by omega, i + 1, rfl, by omega, ?_, ?_, ?_, ?_, rfl⟩ <;> first|(simp (disch := omega) [g3, g6, g7, g8, hst];done)|omega|(simp;done)|(simp;omega)
 ·try simp only[dc]at h9
  have hin : i = L.length := by omega
  rw [hin, List.take_length] at g3
  refine .exit ?_
  refine hK3 _ ?_
  refine .q ?_ (by simp (disch := first|omega|(simp only[ln];omega)) [g3]; rfl)
  refine .ret ?_
  exact hK _ _ _ _ trivial ((Fin.m).cast (by rfl))
set_option maxHeartbeats 4000000 in
theorem layerFaultI_fc (L : List (List Sp)) (hl : L.length ≤ 1099511627776) (hl2 : ∀ r ∈ L, r.length ≤ 1099511627776) : FC Try.prog 35 [.isl (L.map rgC)] (.tup [.int .i64 (lyF L).1, .int .i64 (lyF L).2]) := by
 refine .b Try.func35 46 (fun nx K hK => ?_) (hi := by simp [idfL, idf, idfLL_iff, rgC, Sp.cells])
 refine .q ?_
 refine .sq fun K2 hK2 => ?_
 refine .block ?_
 refine .q ?_ (by simp (disch := first|omega|(simp only[ln];omega)) [List.length_map]; rfl)
 refine .c (t := decide (6 < (L.length : Int))) (fun h9 => ?_) (fun h9 => ?_)
 ·try simp only[dc]at h9
  refine .q ?_
  refine .ret ?_
  exact hK _ _ _ _ trivial ((Fin.m).cast (by rw [lyF_many (by omega)]))
 ·try simp only[dc]at h9
  have h6 : ¬ 6 < L.length := by omega
  refine .sq fun K5 hK5 => ?_
  refine .region ?_
  refine .kf 1 (spotsIn_fc L (by omega) hl2) hb79 ?_
  refine .e ?_
  refine hK5 _ ?_
  refine .c (t := decide (20 < (lyN L : Int))) (fun h13 => ?_) (fun h13 => ?_)
  ·try simp only[dc]at h13
   refine .q ?_
   refine .ret ?_
   exact hK _ _ _ _ trivial ((Fin.m).cast (by rw [lyF_spots h6 (by omega)]))
  ·try simp only[dc]at h13
   have h20 : ¬ 20 < lyN L := by omega
   refine .skip ?_
   refine hK2 _ ?_
   refine .sq fun K7 hK7 => ?_
   refine .q ?_ (by simp (disch := first|omega|(simp only[ln];omega)) [List.length_map]; rfl)
   refine .block ?_
   
   refine .loop (fun N s => ∃ i : Nat, N = L.length - i ∧ i ≤ L.length ∧ (lyF L = (lyA (L.drop i) i).getD ((lyB [] L 0).getD (0, 0))) ∧ (∀ j, j < i → rgF (gr L j) = 0) ∧ s.env 0 = .isl (L.map rgC) ∧ s.env 17 = .isl (L.map rgC) ∧ s.env 18 = .int .i64 (L.length : Int) ∧ s.env 19 = .int .i64 (i : Int) ∧ s.nt = 46) (L.length) (by refine ⟨0, by omega, by omega, lyF_go (by omega) (by omega), fun j h => by omega, ?_, ?_, ?_, ?_, rfl⟩ <;> first|(simp (disch := omega);done)|omega|(simp;done)|(simp;omega)) ?_
   rintro N ⟨e, H, mm, nt⟩ ⟨i, rfl, hi, hv, hz0, g0, g17, g18, g19, rfl⟩
   simp only [] at g0 g17 g18 g19
   refine .q ?_ (by simp (disch := first|omega|(simp only[ln];omega)) [g18, g19]; rfl)
   refine .sq fun K10 hK10 => ?_
   refine .c (fun h20 => ?_) (fun h20 => ?_)
   ·try simp only[dc]at h20
    have hi' : i < L.length := by omega
    have hat := gr_at hi'
    have hlr := hl2 _ (gr_mem hi')
    have cf := ringFaultI_fc (gr L i) hlr
    rw [lyA_step hi'] at hv
    have fb := rgF_b (gr L i)
    generalize hF : rgF (gr L i) = fv at *
    refine .skip ?_
    refine hK10 _ ?_
    refine .sq fun K11 hK11 => ?_
    refine .block ?_
    refine .q ?_ (by simp (disch := first|omega|(simp only[ln];omega)) [if_pos, g17, g19, hat, List.length_map]; rfl)
    refine .sq fun K13 hK13 => ?_
    refine .region ?_
    refine .kf 1 cf hb38 ?_
    refine .e ?_
    refine hK13 _ ?_
    refine .q ?_
    refine .c (t := fv != 0) (fun h27 => ?_) (fun h27 => ?_) (by simp (disch := first|omega|(simp only[ln];omega)) [bne])
    ·try simp only[dc]at h27
     have hz : ¬ fv = 0 := by simpa using h27
     rw [if_neg hz] at hv
     have wr : IntKind.i64.wrap (10 + fv) = 10 + fv := wrap_i64s (by omega) (by omega)
     refine .q ?_ (by simp (disch := first|omega|(simp only[ln];omega)) [wr]; rfl)
     refine .ret ?_
     exact hK _ _ _ _ trivial ((Fin.m).cast (by rw [hv]; rfl))
    ·try simp only[dc]at h27
     have hz : fv = 0 := by simpa using h27
     refine .skip ?_
     refine hK11 _ ?_
     refine .r ?_ (by simp (disch := first|omega|(simp only[ln];omega)) [g19]; rfl)
     refine ⟨L.length - (i + 1), by omega, i + 1, rfl, by omega, by rw [hv, if_pos hz], fun j h => by
       rcases Nat.lt_or_ge j i with h1 | h1
       · exact hz0 j h1
       · rw [show j = i by omega]; exact hF.trans hz, ?_, ?_, ?_, ?_, rfl⟩ <;> first|(simp (disch := omega) [g0, g17, g18, g19];done)|omega|(simp;done)|(simp;omega)
   ·try simp only[dc]at h20
    have hin : i = L.length := by omega
    subst hin
    rw [lyA_end (Nat.le_refl _)] at hv
    have hza : ∀ r ∈ L, rgF r = 0 := fun r hr => by
      obtain ⟨k, hk, e⟩ := List.mem_iff_getElem.1 hr
      have := hz0 k hk
      rw [show gr L k = r by rw [← e]; simp [gr, hk]] at this
      exact this
    replace hv : lyF L = (lyB (L.take 0) (L.drop 0) 0).getD (0, 0) := hv
    refine .exit ?_
    refine hK7 _ ?_
    refine .sq fun K16 hK16 => ?_
    refine .q ?_ (by simp (disch := first|omega|(simp only[ln];omega)) [g0, List.length_map]; rfl)
    refine .block ?_
    
    refine .loop (fun N s => ∃ i : Nat, N = L.length - i ∧ i ≤ L.length ∧ (lyF L = (lyB (L.take i) (L.drop i) i).getD (0, 0)) ∧ s.env 0 = .isl (L.map rgC) ∧ s.env 32 = .isl (L.map rgC) ∧ s.env 33 = .int .i64 (L.length : Int) ∧ s.env 34 = .int .i64 (i : Int) ∧ s.nt = 46) (L.length) (by refine ⟨0, by omega, by omega, hv, ?_, ?_, ?_, ?_, rfl⟩ <;> first|(simp (disch := omega);done)|omega|(simp;done)|(simp;omega)) ?_
    rintro N ⟨e, H, mm, nt⟩ ⟨i, rfl, hi, hv, g0, g32, g33, g34, rfl⟩
    simp only [] at g0 g32 g33 g34
    refine .q ?_ (by simp (disch := first|omega|(simp only[ln];omega)) [g33, g34]; rfl)
    refine .sq fun K19 hK19 => ?_
    refine .c (fun h35 => ?_) (fun h35 => ?_)
    ·try simp only[dc]at h35
     have hi' : i < L.length := by omega
     have hat := gr_at hi'
     have hlr := hl2 _ (gr_mem hi')
     rw [lyB_step hi'] at hv
     have zi := hza _ (gr_mem hi')
     have tk : List.drop 0 (List.take i (L.map rgC)) = (L.take i).map rgC := by rw [List.drop_zero, List.map_take]
     have tkr := rgC_len L
     have tkr' := rgC_lenx L
     have hil : i ≤ L.length := hi
     have cc := containsLF_fc (gr L i) (L.take i) zi (fun r hr => hza r (List.mem_of_mem_take hr)) (by rw [List.length_take]; omega)
     refine .skip ?_
     refine hK19 _ ?_
     refine .sq fun K20 hK20 => ?_
     refine .block ?_
     refine .q ?_ (by simp (disch := first|omega|(simp only[ln];omega)) [if_pos, g32, g34, hat, List.length_map]; rfl)
     refine .sq fun K22 hK22 => ?_
     refine .region ?_
     refine .k 4 ?_ (by simp (disch := first|omega|(simp only[ln];omega)) [List.take_succ_cons, List.take_zero, if_pos, g0, hil, tk, tkr, tkr', List.map_take, List.length_map]; rfl)
     refine AOPS.lcall 4 (cc) rfl rfl rfl hb80 (by simp (disch := first|omega|(simp only[ln];omega)) [lv, idf_Wd', lv_rgD, lv_rgC, lv_sp, lv_int, List.drop_zero, List.map_take, g0, hil, tk, tkr, tkr', List.map_take, List.length_map]) (by simp [atm, atmL]) (by simp (disch := first|omega|(simp only[ln];omega)) [g0, hil, tk, tkr, tkr', List.map_take, List.length_map]) (by simp) ?_
     simp only [puts_some, updo]
     refine .nil ?_
     refine hK22 _ ?_
     refine .c (t := (L.take i).any (rgsM (gr L i))) (fun h43 => ?_) (fun h43 => ?_)
     ·try simp only[dc]at h43
      rw [if_pos h43] at hv
      refine .q ?_
      refine .ret ?_
      exact hK _ _ _ _ trivial ((Fin.m).cast (by rw [hv]; rfl))
     ·try simp only[dc]at h43
      rw [if_neg (by rw [h43]; simp)] at hv
      refine .skip ?_
      refine hK20 _ ?_
      refine .r ?_ (by simp (disch := first|omega|(simp only[ln];omega)) [g34]; rfl)
      refine ⟨L.length - (i + 1), by omega, i + 1, rfl, by omega, hv, ?_, ?_, ?_, ?_, rfl⟩ <;> first|(simp (disch := omega) [g0, g32, g33, g34];done)|omega|(simp;done)|(simp;omega)
    ·try simp only[dc]at h35
     have hin : i = L.length := by omega
     rw [lyB_end (by omega)] at hv
     refine .exit ?_
     refine hK16 _ ?_
     refine .q ?_
     refine .ret ?_
     exact hK _ _ _ _ trivial ((Fin.m).cast (by rw [hv]; rfl))
set_option maxHeartbeats 4000000 in
theorem layerFaultS_fc (L : List (List Sp)) (hl : L.length ≤ 1099511627776) (hl2 : ∀ r ∈ L, r.length ≤ 1099511627776) : FC Try.prog 33 [.isl (L.map rgC)] (.tup [.int .i64 (lyF L).1, .int .i64 (lyF L).2]) := by
 refine .b Try.func33 66 (fun nx K hK => ?_) (hi := by simp [idfL, idf, idfLL_iff, rgC, Sp.cells])
 refine .q ?_
 refine .sq fun K2 hK2 => ?_
 refine .q ?_ (by simp (disch := first|omega|(simp only[ln];omega)) [List.length_map]; rfl)
 refine .c (t := decide (6 < (L.length : Int))) (fun h12 => ?_) (fun h12 => ?_)
 ·try simp only[dc]at h12
  refine .q ?_
  refine .ret ?_
  exact hK _ _ _ _ trivial ((Fin.m).cast (by rw [lyF_many (by omega)]))
 ·try simp only[dc]at h12
  have h6 : ¬ 6 < L.length := by omega
  refine .skip ?_
  refine hK2 _ ?_
  refine .q ?_
  refine .sq fun K6 hK6 => ?_
  refine .q ?_
  refine .block ?_
  
  refine .loop (fun N s => ∃ i : Nat, N = L.length - i ∧ i ≤ L.length ∧ s.env 0 = .isl (L.map rgC) ∧ s.env 4 = .int .i64 (lyN (L.take i) : Int) ∧ s.env 5 = .int .i64 (i : Int) ∧ s.nt = 66) (L.length) (by refine ⟨0, by omega, by omega, ?_, ?_, ?_, rfl⟩ <;> first|(simp (disch := omega) [lyN];done)|omega|(simp;done)|(simp;omega)) ?_
  rintro N ⟨e, H, mm, nt⟩ ⟨i, rfl, hi, g0, g4, g5, rfl⟩
  simp only [] at g0 g4 g5
  refine .sq fun K8 hK8 => ?_
  refine .q ?_ (by simp (disch := first|omega|(simp only[ln];omega)) [g0, g5, List.length_map]; rfl)
  refine .c (fun h16 => ?_) (fun h16 => ?_)
  ·try simp only[dc]at h16
   have hi' : i < L.length := by omega
   have hat := gr_at hi'
   have hlr := hl2 _ (gr_mem hi')
   have hst := lyN_step hi'
   have hb := lyN_take_b (c := 1099511627776) L (i + 1) hl2 (by omega)
   have hb2 := lyN_take_b (c := 1099511627776) L i hl2 (by omega)
   refine .skip ?_
   refine hK8 _ ?_
   refine .sq fun K10 hK10 => ?_
   refine .block ?_
   refine .r ?_ (by simp (disch := first|omega|(simp only[ln];omega)) [if_pos, g0, g4, g5, hat, hst, List.length_map]; rfl)
   refine hK10 _ ?_
   refine .r ?_ (by simp (disch := first|omega|(simp only[ln];omega)) [g5]; rfl)
   refine ⟨L.length - (i + 1), by omega, i + 1, rfl, by omega, ?_, ?_, ?_, rfl⟩ <;> first|(simp (disch := omega) [g0, g4, g5, hst];done)|omega|(simp;done)|(simp;omega)
  ·try simp only[dc]at h16
   have hin : i = L.length := by omega
   rw [hin, List.take_length] at g4
   refine .exit ?_
   refine hK6 _ ?_
   refine .sq fun K11 hK11 => ?_
   refine .q ?_ (by simp (disch := first|omega|(simp only[ln];omega)) [g4]; rfl)
   refine .c (t := decide (20 < (lyN L : Int))) (fun h28 => ?_) (fun h28 => ?_)
   ·try simp only[dc]at h28
    refine .q ?_
    refine .ret ?_
    exact hK _ _ _ _ trivial ((Fin.m).cast (by rw [lyF_spots h6 (by omega)]))
   ·try simp only[dc]at h28
    have h20 : ¬ 20 < lyN L := by omega
    refine .skip ?_
    refine hK11 _ ?_
    refine .sq fun K14 hK14 => ?_
    refine .q ?_
    refine .block ?_
    
    refine .loop (fun N s => ∃ i : Nat, N = L.length - i ∧ i ≤ L.length ∧ (lyF L = (lyA (L.drop i) i).getD ((lyB [] L 0).getD (0, 0))) ∧ (∀ j, j < i → rgF (gr L j) = 0) ∧ s.env 0 = .isl (L.map rgC) ∧ s.env 6 = .int .i64 (i : Int) ∧ s.nt = 66) (L.length) (by refine ⟨0, by omega, by omega, lyF_go (by omega) (by omega), fun j h => by omega, ?_, ?_, rfl⟩ <;> first|(simp (disch := omega) [g0];done)|omega|(simp;done)|(simp;omega)) ?_
    rintro N ⟨e, H, mm, nt⟩ ⟨i, rfl, hi, hv, hz0, g0, g6, rfl⟩
    simp only [] at g0 g6
    refine .sq fun K16 hK16 => ?_
    refine .q ?_ (by simp (disch := first|omega|(simp only[ln];omega)) [g0, g6, List.length_map]; rfl)
    refine .c (fun h32 => ?_) (fun h32 => ?_)
    ·try simp only[dc]at h32
     have hi' : i < L.length := by omega
     have hat := gr_at hi'
     have hlr := hl2 _ (gr_mem hi')
     have cf := ringFaultS_fc (gr L i) hlr
     rw [lyA_step hi'] at hv
     have fb := rgF_b (gr L i)
     generalize hF : rgF (gr L i) = fv at *
     refine .skip ?_
     refine hK16 _ ?_
     refine .sq fun K18 hK18 => ?_
     refine .block ?_
     refine .sq fun K19 hK19 => ?_
     refine .region ?_
     refine .kf 4 cf hb39 ?_ (by simp (disch := first|omega|(simp only[ln];omega)) [List.take_succ_cons, List.take_zero, if_pos, g0, g6, hat, List.length_map]; rfl) (ha := by simp (disch := first|omega|(simp only[ln];omega)) [idf_Wd', if_pos, g0, g6, hat, List.length_map])
     refine .e ?_ (by simp (disch := first|omega|(simp only[ln];omega)) [if_pos, g0, g6, hat, List.length_map]; rfl)
     refine hK19 _ ?_
     refine .q ?_
     refine .c (t := fv != 0) (fun h41 => ?_) (fun h41 => ?_) (by simp (disch := first|omega|(simp only[ln];omega)) [bne])
     ·try simp only[dc]at h41
      have hz : ¬ fv = 0 := by simpa using h41
      rw [if_neg hz] at hv
      have wr : IntKind.i64.wrap (10 + fv) = 10 + fv := wrap_i64s (by omega) (by omega)
      refine .q ?_ (by simp (disch := first|omega|(simp only[ln];omega)) [g6, wr]; rfl)
      refine .ret ?_
      exact hK _ _ _ _ trivial ((Fin.m).cast (by rw [hv]; rfl))
     ·try simp only[dc]at h41
      have hz : fv = 0 := by simpa using h41
      refine .skip ?_
      refine hK18 _ ?_
      refine .r ?_ (by simp (disch := first|omega|(simp only[ln];omega)) [g6]; rfl)
      refine ⟨L.length - (i + 1), by omega, i + 1, rfl, by omega, by rw [hv, if_pos hz], fun j h => by
        rcases Nat.lt_or_ge j i with h1 | h1
        · exact hz0 j h1
        · rw [show j = i by omega]; exact hF.trans hz, ?_, ?_, rfl⟩ <;> first|(simp (disch := omega) [g0, g6];done)|omega|(simp;done)|(simp;omega)
    ·try simp only[dc]at h32
     have hin : i = L.length := by omega
     subst hin
     rw [lyA_end (Nat.le_refl _)] at hv
     have hza : ∀ r ∈ L, rgF r = 0 := fun r hr => by
       obtain ⟨k, hk, e⟩ := List.mem_iff_getElem.1 hr
       have := hz0 k hk
       rw [show gr L k = r by rw [← e]; simp [gr, hk]] at this
       exact this
     replace hv : lyF L = (lyB (L.take 0) (L.drop 0) 0).getD (0, 0) := hv
     refine .exit ?_
     refine hK14 _ ?_
     refine .sq fun K22 hK22 => ?_
     refine .q ?_
     refine .block ?_
     
     refine .loop (fun N s => ∃ i : Nat, N = L.length - i ∧ i ≤ L.length ∧ (lyF L = (lyB (L.take i) (L.drop i) i).getD (0, 0)) ∧ s.env 0 = .isl (L.map rgC) ∧ s.env 8 = .int .i64 (i : Int) ∧ s.nt = 66) (L.length) (by refine ⟨0, by omega, by omega, hv, ?_, ?_, rfl⟩ <;> first|(simp (disch := omega) [g0];done)|omega|(simp;done)|(simp;omega)) ?_
     rintro N ⟨e, H, mm, nt⟩ ⟨i, rfl, hi, hv, g0, g8, rfl⟩
     simp only [] at g0 g8
     refine .sq fun K24 hK24 => ?_
     refine .q ?_ (by simp (disch := first|omega|(simp only[ln];omega)) [g0, g8, List.length_map]; rfl)
     refine .c (fun h48 => ?_) (fun h48 => ?_)
     ·try simp only[dc]at h48
      have hi' : i < L.length := by omega
      have hat := gr_at hi'
      have hlr := hl2 _ (gr_mem hi')
      rw [lyB_step hi'] at hv
      have zi := hza _ (gr_mem hi')
      refine .skip ?_
      refine hK24 _ ?_
      refine .sq fun K26 hK26 => ?_
      refine .block ?_
      refine .q ?_
      refine .block ?_
      
      refine .loop (fun N s => ∃ k : Nat, N = i - k ∧ k ≤ i ∧ (∀ j, j < k → rgsM (gr L i) (gr L j) = false) ∧ s.env 0 = .isl (L.map rgC) ∧ s.env 8 = .int .i64 (i : Int) ∧ s.env 9 = .int .i64 (k : Int) ∧ s.nt = 66) (i) (by refine ⟨0, by omega, by omega, fun j h => by omega, ?_, ?_, ?_, rfl⟩ <;> first|(simp (disch := omega) [g0, g8];done)|omega|(simp;done)|(simp;omega)) ?_
      rintro N ⟨e, H, mm, nt⟩ ⟨k, rfl, hk, hn, g0, g8, g9, rfl⟩
      simp only [] at g0 g8 g9
      refine .sq fun K28 hK28 => ?_
      refine .q ?_ (by simp (disch := first|omega|(simp only[ln];omega)) [g8, g9]; rfl)
      refine .c (fun h53 => ?_) (fun h53 => ?_)
      ·try simp only[dc]at h53
       have hk' : k < L.length := by omega
       have hki : k < i := by omega
       have hatk := gr_at hk'
       have cm := l5Meet_fc (gr L i) (gr L k) zi (hza _ (gr_mem hk'))
       refine .skip ?_
       refine hK28 _ ?_
       refine .sq fun K30 hK30 => ?_
       refine .block ?_
       refine .sq fun K31 hK31 => ?_
       refine .d 9 ?_
       refine .k 8 (fun fs32 hfs32 => ?_) (by simp (disch := first|omega|(simp only[ln];omega)) [runDf.eq_def, runF1, runF2, stepF.eq_def, updo.eq_def, hupo.eq_def, opSto1.eq_def, List.take_succ_cons, List.take_zero, if_pos, g0, g8, g9, hat, hatk, hi', hk', List.length_map]; rfl)
       refine .f cm hb78 ?_ (ha := by simp (disch := first|omega|(simp only[ln];omega)) [idf_Wd', if_pos, g0, g8, g9, hat, hatk, hi', hk', List.length_map])
       refine .r 9 (by simp only[ln, hfs32];omega) ?_ (by simp (disch := first|omega|(simp only[ln];omega)) [runDf.eq_def, runF1, runF2, stepF.eq_def, updo.eq_def, hupo.eq_def, opSto1.eq_def, if_pos, g0, g8, g9, hat, hatk, hi', hk', List.length_map]; rfl)
       refine hK31 _ ?_
       refine .c (t := rgsM (gr L i) (gr L k)) (fun h64 => ?_) (fun h64 => ?_)
       ·try simp only[dc]at h64
        rw [if_pos ((any_take (Nat.le_of_lt hi')).2 ⟨k, hki, h64⟩)] at hv
        refine .q ?_ (by simp (disch := first|omega|(simp only[ln];omega)) [g8]; rfl)
        refine .ret ?_
        exact hK _ _ _ _ trivial ((Fin.m).cast (by rw [hv]; rfl))
       ·try simp only[dc]at h64
        refine .skip ?_
        refine hK30 _ ?_
        refine .r ?_ (by simp (disch := first|omega|(simp only[ln];omega)) [g9]; rfl)
        refine ⟨i - (k + 1), by omega, k + 1, rfl, by omega, fun j h => by
          rcases Nat.lt_or_ge j k with h1 | h1
          · exact hn j h1
          · rw [show j = k by omega]; exact h64, ?_, ?_, ?_, rfl⟩ <;> first|(simp (disch := omega) [g0, g8, g9];done)|omega|(simp;done)|(simp;omega)
      ·try simp only[dc]at h53
       have hany : (L.take i).any (rgsM (gr L i)) = false := by
         cases hc : (L.take i).any (rgsM (gr L i)) with
         | false => rfl
         | true =>
           obtain ⟨j, hj, e⟩ := (any_take (Nat.le_of_lt hi')).1 hc
           rw [hn j (by omega)] at e; simp at e
       rw [if_neg (by rw [hany]; simp)] at hv
       refine .exit ?_
       refine hK26 _ ?_
       refine .r ?_ (by simp (disch := first|omega|(simp only[ln];omega)) [g8]; rfl)
       refine ⟨L.length - (i + 1), by omega, i + 1, rfl, by omega, hv, ?_, ?_, rfl⟩ <;> first|(simp (disch := omega) [g0, g8];done)|omega|(simp;done)|(simp;omega)
     ·try simp only[dc]at h48
      have hin : i = L.length := by omega
      rw [lyB_end (by omega)] at hv
      refine .exit ?_
      refine hK22 _ ?_
      refine .q ?_
      refine .ret ?_
      exact hK _ _ _ _ trivial ((Fin.m).cast (by rw [hv]; rfl))
end

end Go.Proofs.Ytdcajfgeleopiaa

/- Walks: FnExactLayerFault, walked: the law. -/
namespace Go.Proofs.Ytdcajfgeleopiaa
open Go Go.RowKit
set_option linter.unusedSimpArgs false
set_option linter.unusedVariables false
set_option maxRecDepth 100000
attribute [local simp] szT2 byT2 agT2 unT2 zoT2 szT3 byT3 agT3 unT3 zoT3

section
attribute [local simp] Sp.av Sp.cells Sg.av Sg.cells
set_option maxHeartbeats 2000000 in
theorem fnExactLayerFault_fc (L : List (List Sp)) (hl : L.length ≤ 9223372036854775807) (hl2 : ∀ r ∈ L, r.length ≤ 9223372036854775807) : FC Try.prog 6 [.isl (L.map rgC)] (.bool true) := by
 have sz := szRingS_fc L hl hl2
 rw [rgs] at sz
 refine .b Try.func6 40 (fun nx K hK => ?_) (hi := by simp [idfL, idf, idfLL_iff, rgC, Sp.cells])
 refine .q ?_
 refine .q ?_
 refine .sq fun K3 hK3 => ?_
 refine .region ?_
 refine .kf 2 sz hb32 ?_
 refine .e ?_
 refine hK3 _ ?_
 refine .sq fun K4 hK4 => ?_
 refine .q ?_
 refine .c (t := decide (srA L 1048576 < 0)) (fun h13 => ?_) (fun h13 => ?_)
 ·try simp only[dc]at h13
  refine .q ?_
  refine .ret ?_
  exact hK _ _ _ _ trivial ((Fin.m))
 ·try simp only[dc]at h13
  obtain ⟨k0, k2, kn⟩ := srA_b (L := L) (n := 1048576) (by omega)
  have k1 : L.length ≤ 1048576 := by omega
  have k3 : ∀ r ∈ L, r.length ≤ 1048576 := fun r hr => by have := k2 r hr; omega
  have q1 : L.length ≤ 1099511627776 := by omega
  have q2 : ∀ r ∈ L, r.length ≤ 1099511627776 := fun r hr => by have := k3 r hr; omega
  have tr := toRingS_fc L k1 k3
  rw [rgs] at tr
  have er := eqRingS_fc L hl hl2
  rw [rgs] at er
  have cs := layerFaultS_fc L q1 q2
  have ci := layerFaultI_fc L q1 q2
  generalize lyF L = V at *
  refine .skip ?_
  refine hK4 _ ?_
  refine .sq fun K7 hK7 => ?_
  refine .region ?_
  refine .kf 1 tr hb34 ?_
  refine .f cs hb33 ?_
  refine .e ?_
  refine hK7 _ ?_
  refine .sq fun K8 hK8 => ?_
  refine .region ?_
  refine .kf 1 tr hb34 ?_
  refine .e ?_
  refine hK8 _ ?_
  refine .sq fun K9 hK9 => ?_
  refine .region ?_
  refine .kf 1 ci hb35 ?_
  refine .e ?_
  refine hK9 _ ?_
  refine .sq fun K10 hK10 => ?_
  refine .q ?_
  refine .c (fun h34 => ?_) (fun h34 => ?_)
  ·simp at h34
  ·try simp only[dc]at h34
   refine .skip ?_
   refine hK10 _ ?_
   refine .sq fun K12 hK12 => ?_
   refine .sq fun K13 hK13 => ?_
   refine .region ?_
   refine .kf 2 tr hb34 ?_
   refine .f er hb36 ?_
   refine .e ?_
   refine hK13 _ ?_
   refine .c (fun h39 => ?_) (fun h39 => ?_)
   ·simp at h39
   ·try simp only[dc]at h39
    refine .skip ?_
    refine hK12 _ ?_
    refine .q ?_
    refine .ret ?_
    exact hK _ _ _ _ trivial ((Fin.m))
end

end Go.Proofs.Ytdcajfgeleopiaa
