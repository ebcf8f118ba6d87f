/- Areas of loops: fractions in lowest terms, added one by one. -/
import Derived.Test.YtdcajfgeleopiaaG11

namespace Go.Proofs.Ytdcajfgeleopiaa
open Go Go.RowKit

def addQ (p q : Int × Int) : Int × Int := (lowU (p.1 * q.2 + q.1 * p.2) (p.2 * q.2), lowD (p.1 * q.2 + q.1 * p.2) (p.2 * q.2))
def gp (l : List Pt) (i : Nat) : Pt := l.getD i pt0
/-- A fraction in lowest terms, its divisor above 0. -/
def redQ (p : Int × Int) : Prop := 0 < p.2 ∧ Int.gcd p.1 p.2 = 1
theorem redQ.low {p : Int × Int} (h : redQ p) : lowU p.1 p.2 = p.1 ∧ lowD p.1 p.2 = p.2 := low_uniq (by have := h.1; omega) h.1 h.2 rfl
/-- The same fraction by other numbers. -/
def eqQ (u d : Int) (p : Int × Int) : Prop := 0 < d ∧ u * p.2 = p.1 * d
theorem eqQ.low {u d : Int} {p : Int × Int} (h : eqQ u d p) (hr : redQ p) : lowU u d = p.1 ∧ lowD u d = p.2 := low_uniq (by have := h.1; omega) hr.1 hr.2 h.2.symm
theorem eqQ.step {u d c w : Int} {p : Int × Int} (h : eqQ u d p) (hr : redQ p) (hw : 0 < w) : eqQ (u * (w / gg d w) + c * (d / gg d w)) (d * (w / gg d w)) (addQ p (c, w)) := by
  obtain ⟨hd, he⟩ := h
  have hg := gg_pos (u := d) (d := w) (by omega)
  have k1 : w / gg d w * gg d w = w := Int.ediv_mul_cancel (gg_r d w)
  have m1 : d / gg d w * gg d w = d := Int.ediv_mul_cancel (gg_l d w)
  generalize gg d w = g at *
  generalize w / g = k at *
  generalize d / g = m at *
  have hk : 0 < k := by
    rcases Int.lt_trichotomy k 0 with h0 | h0 | h0
    · have := Int.mul_neg_of_neg_of_pos h0 hg; omega
    · subst h0; omega
    · exact h0
  refine ⟨Int.mul_pos hd hk, ?_⟩
  have hpw : p.2 * w ≠ 0 := Int.mul_ne_zero (by have := hr.1; omega) (by omega)
  have lc := low_cross (u := p.1 * w + c * p.2) hpw
  have lc : (addQ p (c, w)).1 * (p.2 * w) = (p.1 * w + c * p.2) * (addQ p (c, w)).2 := lc
  generalize (addQ p (c, w)).1 = U at *
  generalize (addQ p (c, w)).2 = D at *
  refine Int.eq_of_mul_eq_mul_right hpw ?_
  have e1 : U * (d * k) * (p.2 * w) = (U * (p.2 * w)) * (d * k) := by grind
  rw [e1, lc, ← k1, ← m1]
  have he2 : u * p.2 = p.1 * (m * g) := by rw [m1]; exact he
  have e2 : (u * k + c * m) * D * (p.2 * (k * g)) = (D * k * g) * (k * (u * p.2) + c * m * p.2) := by grind
  rw [e2, he2]
  grind
theorem eqQ.one : eqQ 0 1 (0, 1) := ⟨by decide, rfl⟩
end Go.Proofs.Ytdcajfgeleopiaa

/- Rings turned. -/
namespace Go.Proofs.Ytdcajfgeleopiaa
open Go Go.RowKit

/-- A row of spots, of which the part from s on, m long, is turned at its first and last i. -/
def revI (l : List Sp) (s m i : Nat) : List Sp := (List.range l.length).map fun p => if s ≤ p ∧ p < s + m ∧ (p - s < i ∨ m - i ≤ p - s) then gs l (s + (m - 1 - (p - s))) else gs l p
theorem revI_len (l : List Sp) (s m i : Nat) : (revI l s m i).length = l.length := by simp [revI]
theorem revI_get {l : List Sp} {s m i p : Nat} (h : p < l.length) : (revI l s m i)[p]? = some (if s ≤ p ∧ p < s + m ∧ (p - s < i ∨ m - i ≤ p - s) then gs l (s + (m - 1 - (p - s))) else gs l p) := by simp [revI, h]
theorem revI_zero (l : List Sp) (s m : Nat) : revI l s m 0 = l := by
  apply List.ext_getElem?
  intro p
  rcases Nat.lt_or_ge p l.length with h | h
  · rw [revI_get h, gs_get h, if_neg (by omega)]
  · rw [List.getElem?_eq_none (by rw [revI_len]; omega), List.getElem?_eq_none (by omega)]
theorem revI_lo {l : List Sp} {s m i : Nat} (hs : s + m ≤ l.length) (hi : 2 * i + 1 < m) : (revI l s m i)[s + i]? = some (gs l (s + i)) := by
  rw [revI_get (by omega), if_neg (by omega)]
theorem revI_hi {l : List Sp} {s m i : Nat} (hs : s + m ≤ l.length) (hi : 2 * i + 1 < m) : (revI l s m i)[s + (m - 1 - i)]? = some (gs l (s + (m - 1 - i))) := by
  rw [revI_get (by omega), if_neg (by omega)]
theorem revI_step {l : List Sp} {s m i : Nat} (hs : s + m ≤ l.length) (hi : 2 * i + 1 < m) : ((revI l s m i).set (s + i) (gs l (s + (m - 1 - i)))).set (s + (m - 1 - i)) (gs l (s + i)) = revI l s m (i + 1) := by
  apply List.ext_getElem?
  intro p
  rcases Nat.lt_or_ge p l.length with h | h
  · rw [List.getElem?_set, List.getElem?_set, revI_get h, revI_get h]
    simp only [List.length_set, revI_len]
    by_cases h1 : s + (m - 1 - i) = p
    · subst h1
      rw [if_pos rfl, if_pos h, if_pos (by omega)]
      congr 2; omega
    · rw [if_neg h1]
      by_cases h2 : s + i = p
      · subst h2
        rw [if_pos rfl, if_pos h, if_pos (by omega)]
        congr 2; omega
      · rw [if_neg h2]
        by_cases h3 : s ≤ p ∧ p < s + m ∧ (p - s < i ∨ m - i ≤ p - s)
        · rw [if_pos h3, if_pos (by omega)]
        · rw [if_neg h3, if_neg (by omega)]
  · rw [List.getElem?_eq_none (by simp [revI_len]; omega), List.getElem?_eq_none (by rw [revI_len]; omega)]
theorem revI_end {l : List Sp} {i : Nat} (hl : 1 ≤ l.length) (hi : l.length - 1 ≤ 2 * i + 1) : revI l 1 (l.length - 1) i = turnR l := by
  apply List.ext_getElem?
  intro p
  have hd : (l.drop 1).length = l.length - 1 := by simp
  have ht : (l.take 1).length = 1 := by rw [List.length_take]; omega
  rcases Nat.lt_or_ge p l.length with h | h
  · rw [revI_get h]
    unfold turnR
    rcases Nat.eq_zero_or_pos p with h0 | h0
    · subst h0
      rw [if_neg (by omega), List.getElem?_append_left (by omega), List.getElem?_take, if_pos (by omega), gs_get (by omega)]
    · rw [List.getElem?_append_right (by omega), ht, List.getElem?_reverse (by rw [hd]; omega), hd, List.getElem?_drop, gs_get (by omega)]
      by_cases h3 : 1 ≤ p ∧ p < 1 + (l.length - 1) ∧ (p - 1 < i ∨ l.length - 1 - i ≤ p - 1)
      · rw [if_pos h3]
      · rw [if_neg h3]
        congr 2
        omega
  · rw [List.getElem?_eq_none (by rw [revI_len]; omega), List.getElem?_eq_none (by unfold turnR; simp; omega)]
theorem turnR_len (l : List Sp) : (turnR l).length = l.length := by unfold turnR; simp; omega
/-- The reference's turned ring, spot by spot. -/
def turnS (l : List Sp) (k : Nat) : List Sp := gs l 0 :: (List.range k).map fun j => gs l (l.length - 1 - j)
theorem turnS_len (l : List Sp) (k : Nat) : (turnS l k).length = k + 1 := by simp [turnS]
theorem turnS_step (l : List Sp) (k : Nat) : turnS l (k + 1) = turnS l k ++ [gs l (l.length - 1 - k)] := by simp [turnS, List.range_succ]
theorem turnS_end {l : List Sp} (hl : 1 ≤ l.length) : turnS l (l.length - 1) = turnR l := by
  apply List.ext_getElem?
  intro p
  have hd : (l.drop 1).length = l.length - 1 := by simp
  have ht : (l.take 1).length = 1 := by rw [List.length_take]; omega
  rcases Nat.lt_or_ge p l.length with h | h
  · unfold turnR turnS
    rcases Nat.eq_zero_or_pos p with h0 | h0
    · subst h0
      rw [List.getElem?_append_left (by omega), List.getElem?_take, if_pos (by omega), gs_get (r := l) (by omega)]; rfl
    · obtain ⟨q, rfl⟩ : ∃ q, p = q + 1 := ⟨p - 1, by omega⟩
      rw [List.getElem?_append_right (by omega), ht, List.getElem?_reverse (by rw [hd]; omega), hd, List.getElem?_drop, gs_get (r := l) (by omega), List.getElem?_cons_succ]
      simp only [List.getElem?_map]
      rw [List.getElem?_range (by omega)]
      simp only [Option.map_some]
      congr 2; omega
  · rw [List.getElem?_eq_none (by rw [turnS_len]; omega), List.getElem?_eq_none (by rw [turnR_len]; omega)]
/-- Rows of two numbers, as they are marked. -/
def m2 (k : Int) (j : Nat) : List AV := [.int .i64 (k + 2 * (j : Int)), .int .i64 (k + 2 * (j : Int) + 1)]
theorem lv_int (H : Heap) (k : Nat) (t : IntKind) (n : Int) : lv H k (.int t n) = .int t n := by cases k <;> rfl
theorem lv_bool (H : Heap) (k : Nat) (b : Bool) : lv H k (.bool b) = .bool b := by cases k <;> rfl
theorem lv_nsl (H : Heap) (k : Nat) : lv H k .nsl = .nsl := by cases k <;> rfl
theorem lv_sp (H : Heap) (k : Nat) : (List.map (lv H k) ∘ Sp.cells) = Sp.cells := by funext p; simp [Sp.cells, lv_int]
theorem lv_sg (H : Heap) (k : Nat) : (List.map (lv H k) ∘ Sg.cells) = Sg.cells := by funext p; simp [Sg.cells, lv_int]
theorem lv_m2 (H : Heap) (k : Nat) (c : Int) (n : Nat) : List.map (List.map (lv H k)) (mkR (m2 c) n) = mkR (m2 c) n := by
  unfold mkR; rw [List.map_map]; congr 1; funext j; simp [m2, lv_int]
end Go.Proofs.Ytdcajfgeleopiaa

/- Points halved, squares of distances: the plain laws. -/
namespace Go.Proofs.Ytdcajfgeleopiaa
open Go Go.RowKit

theorem told_scale {u d u' d' : Int} (h : d ≠ 0) (h' : d' ≠ 0) (e : u * d' = u' * d) : told u d = told u' d' := by
  have c := @low_cross u' d' h'
  obtain ⟨e1, e2⟩ := low_uniq (u := u) (d := d) h (lowD_pos (u := u') h') (low_red h') (by
    have : lowU u' d' * d * d' = u * lowD u' d' * d' := by grind
    exact Int.eq_of_mul_eq_mul_right h' this)
  rw [told_fit h, told_fit h', e1, e2]
def dX (p q : Pt) : Int := p.x.v * q.w.v - q.x.v * p.w.v
def dY (p q : Pt) : Int := p.y.v * q.w.v - q.y.v * p.w.v
def dN (p q : Pt) : Int := dX p q * dX p q + dY p q * dY p q
def dD (p q : Pt) : Int := (p.w.v * q.w.v) * (p.w.v * q.w.v)
def d2F (p q : Pt) : Rt × Bool := if (p.good && q.good) = true then told (dN p q) (dD p q) else (Rt0, false)
theorem d2F_good {p q : Pt} (hp : p.good = true) (hq : q.good = true) : d2F p q = told (dN p q) (dD p q) := by unfold d2F; rw [hp, hq]; rfl
theorem dD_pos {p q : Pt} (hp : p.good = true) (hq : q.good = true) : 0 < dD p q := by
  have := Int.mul_pos (good_pos hp) (good_pos hq)
  exact Int.mul_pos this this
/-- What a middle is. -/
structure Mid (p q m : Pt) : Prop where
  gp : p.good = true
  gq : q.good = true
  gm : m.good = true
  hx : m.x.v * (2 * (p.w.v * q.w.v)) = (p.x.v * q.w.v + q.x.v * p.w.v) * m.w.v
  hy : m.y.v * (2 * (p.w.v * q.w.v)) = (p.y.v * q.w.v + q.y.v * p.w.v) * m.w.v
section
variable {p q m : Pt} (M : Mid p q m)
include M
theorem Mid.dx1 : dX p m * (2 * (p.w.v * q.w.v)) = dX p q * (m.w.v * p.w.v) := by have := M.hx; unfold dX; grind
theorem Mid.dy1 : dY p m * (2 * (p.w.v * q.w.v)) = dY p q * (m.w.v * p.w.v) := by have := M.hy; unfold dY; grind
theorem Mid.dx2 : dX m q * (2 * (p.w.v * q.w.v)) = dX p q * (m.w.v * q.w.v) := by have := M.hx; unfold dX; grind
theorem Mid.dy2 : dY m q * (2 * (p.w.v * q.w.v)) = dY p q * (m.w.v * q.w.v) := by have := M.hy; unfold dY; grind
theorem Mid.d1 : d2F p m = told (dN p q) (4 * dD p q) := by
  rw [d2F_good M.gp M.gm]
  have a := dD_pos M.gp M.gq
  have b := dD_pos M.gp M.gm
  have h1 := M.dx1
  have h2 := M.dy1
  refine told_scale (by omega) (by omega) ?_
  unfold dN dD; grind
theorem Mid.d2 : d2F m q = told (dN p q) (4 * dD p q) := by
  rw [d2F_good M.gm M.gq]
  have a := dD_pos M.gp M.gq
  have b := dD_pos M.gm M.gq
  have h1 := M.dx2
  have h2 := M.dy2
  refine told_scale (by omega) (by omega) ?_
  unfold dN dD; grind
end
end Go.Proofs.Ytdcajfgeleopiaa

/- Segments that meet: a common point, the ends. -/
namespace Go.Proofs.Ytdcajfgeleopiaa
open Go Go.RowKit

theorem lsS_if {p q : Sp} : lsS p q = true ↔ p.x < q.x ∨ (p.x = q.x ∧ p.y < q.y) := by simp [lsS]
end Go.Proofs.Ytdcajfgeleopiaa

/- Layers: faults, sides, depths, areas. -/
namespace Go.Proofs.Ytdcajfgeleopiaa
open Go Go.RowKit

def gr (L : List (List Sp)) (i : Nat) : List Sp := L.getD i []
theorem gr_get {L : List (List Sp)} {i : Nat} (h : i < L.length) : L[i]? = some (gr L i) := by simp [gr, h]
theorem take_gr {L : List (List Sp)} {i : Nat} (h : i < L.length) : L.take (i + 1) = L.take i ++ [gr L i] := by
  rw [List.take_add_one, gr_get h]; rfl
def lyN : List (List Sp) → Nat
  | [] => 0
  | r :: R => r.length + lyN R
theorem lyN_app : ∀ (L M : List (List Sp)), lyN (L ++ M) = lyN L + lyN M
  | [], M => by simp [lyN]
  | r :: R, M => by simp only [List.cons_append, lyN, lyN_app R M]; omega
theorem lyN_step {L : List (List Sp)} {i : Nat} (h : i < L.length) : lyN (L.take (i + 1)) = lyN (L.take i) + (gr L i).length := by
  rw [take_gr h, lyN_app]; simp [lyN]
structure LyOk (L : List (List Sp)) : Prop where
  len : L.length ≤ 6
  spots : lyN L ≤ 20
  ok : ∀ r ∈ L, rgF r = 0
  apart : ∀ i k, i < L.length → k < L.length → k ≠ i → rgsM (gr L i) (gr L k) = false
/-! Where a point lies to a layer. -/
/-! Depths. -/
/-! Areas. -/
end Go.Proofs.Ytdcajfgeleopiaa

/- Rings in their form: from the least spot on. -/
namespace Go.Proofs.Ytdcajfgeleopiaa
open Go Go.RowKit

/-- The index of the least spot among the first i + 1. -/
def leI (l : List Sp) : Nat → Nat
  | 0 => 0
  | i + 1 => if lsS (gs l (i + 1)) (gs l (leI l i)) = true then i + 1 else leI l i
theorem leI_le (l : List Sp) : ∀ i, leI l i ≤ i
  | 0 => Nat.le_refl _
  | i + 1 => by
    have := leI_le l i
    unfold leI; split <;> omega
def leL (l : List Sp) : Nat := leI l (l.length - 1)
theorem leL_lt {l : List Sp} (h : 0 < l.length) : leL l < l.length := by have := leI_le l (l.length - 1); unfold leL; omega
theorem lsS_irr (p : Sp) : lsS p p = false := by
  cases h : lsS p p with
  | false => rfl
  | true => rw [lsS_if] at h; omega
theorem lsS_tr {p q r : Sp} (h : lsS p q = true) (k : lsS q r = true) : lsS p r = true := by rw [lsS_if] at *; omega
theorem lsS_tot {p q : Sp} (h : ¬ lsS p q = true) (k : ¬ lsS q p = true) : p = q := by
  rw [lsS_if] at h k
  cases p; cases q; simp only [Sp.mk.injEq] at *; omega
/-- What stands ahead of the least is greater. -/
theorem leI_min (l : List Sp) : ∀ i j, j ≤ i → ¬ lsS (gs l j) (gs l (leI l i)) = true
  | 0, j, h => by rw [Nat.le_zero.1 h, leI, lsS_irr]; simp
  | i + 1, j, h => by
    unfold leI
    rcases Nat.lt_or_ge j (i + 1) with h1 | h1
    · have ih := leI_min l i j (by omega)
      split
      · rename_i h2
        intro h3
        exact ih (lsS_tr h3 h2)
      · exact ih
    · rw [show j = i + 1 by omega]
      split
      · rw [lsS_irr]; simp
      · assumption
theorem leI_first (l : List Sp) : ∀ i j, j < leI l i → lsS (gs l (leI l i)) (gs l j) = true
  | 0, j, h => by simp [leI] at h
  | i + 1, j, h => by
    unfold leI at h ⊢
    split at h
    · rename_i h2
      rw [if_pos h2]
      have hm := leI_min l i j (by omega)
      by_cases h4 : lsS (gs l (leI l i)) (gs l j) = true
      · exact lsS_tr h2 h4
      · have := lsS_tot h4 hm
        rw [← this]; exact h2
    · rename_i h2
      rw [if_neg h2]; exact leI_first l i j h
theorem ixGo_at {p : Sp} : ∀ (l : List Sp) (k n : Nat), n < l.length → gs l n = p → (∀ j, j < n → gs l j ≠ p) → ixGo l k p = ((k + n : Nat) : Int)
  | [], _, _, h, _, _ => by simp at h
  | x :: r, k, 0, _, e, _ => by
    have : x = p := e
    simp [ixGo, this]
  | x :: r, k, n + 1, h, e, hn => by
    have h0 : x ≠ p := hn 0 (by omega)
    rw [ixGo, if_neg h0]
    have := ixGo_at r (k + 1) n (by simpa using h) e fun j hj => hn (j + 1) (by omega)
    rw [this]; congr 1; omega
theorem ixI_le {l : List Sp} (h : 0 < l.length) : ixI l (gs l (leL l)) = (leL l : Int) := by
  unfold ixI
  rw [ixGo_at l 0 (leL l) (leL_lt h) rfl fun j hj e => ?_]
  · simp
  · have := leI_first l _ j hj
    unfold leL at e
    rw [e, lsS_irr] at this; simp at this
/-- A ring that begins at another spot. -/
def rotR (l : List Sp) (k : Nat) : List Sp := l.drop k ++ l.take k
theorem rotR_len (l : List Sp) (k : Nat) : (rotR l k).length = l.length := by simp [rotR]; omega
theorem gs_ext {l m : List Sp} (h : l.length = m.length) (he : ∀ i, i < l.length → gs l i = gs m i) : l = m := by
  apply List.ext_getElem h
  intro i h1 h2
  have := he i h1
  simpa [gs, h1, h2] using this
theorem gs_app1 {l m : List Sp} {i : Nat} (h : i < l.length) : gs (l ++ m) i = gs l i := by
  simp only [gs, List.getD_eq_getElem?_getD]; rw [List.getElem?_append_left h]
theorem gs_app2 {l m : List Sp} {i : Nat} (h : l.length ≤ i) : gs (l ++ m) i = gs m (i - l.length) := by
  simp only [gs, List.getD_eq_getElem?_getD]; rw [List.getElem?_append_right h]
theorem gs_drop (l : List Sp) (k i : Nat) : gs (l.drop k) i = gs l (k + i) := by simp [gs, List.getD_eq_getElem?_getD]
theorem gs_take {l : List Sp} {k i : Nat} (h : i < k) : gs (l.take k) i = gs l i := by simp [gs, List.getD_eq_getElem?_getD, List.getElem?_take_of_lt h]
theorem rotR_gs {l : List Sp} {k i : Nat} (hk : k ≤ l.length) (hi : i < l.length) : gs (rotR l k) i = gs l ((k + i) % l.length) := by
  unfold rotR
  rcases Nat.lt_or_ge (k + i) l.length with h | h
  · rw [gs_app1 (by simp; omega), gs_drop, Nat.mod_eq_of_lt h]
  · rw [gs_app2 (by simp; omega), List.length_drop, gs_take (by omega)]
    congr 1
    rw [Nat.mod_eq_sub_mod h, Nat.mod_eq_of_lt (by omega)]; omega
/-- The reference's rows, one spot more each. -/
def rotS (l : List Sp) (k : Nat) (i : Nat) : List Sp := (List.range i).map fun j => gs l ((k + j) % l.length)
theorem rotS_step (l : List Sp) (k i : Nat) : rotS l k (i + 1) = rotS l k i ++ [gs l ((k + i) % l.length)] := by unfold rotS; rw [List.range_succ, List.map_append]; rfl
theorem rotS_len (l : List Sp) (k i : Nat) : (rotS l k i).length = i := by simp [rotS]
theorem rotS_end {l : List Sp} {k : Nat} (hk : k ≤ l.length) : rotS l k l.length = rotR l k := by
  refine gs_ext (by rw [rotS_len, rotR_len]) fun i hi => ?_
  rw [rotS_len] at hi
  rw [rotR_gs hk hi]
  simp [gs, rotS, List.getD_eq_getElem?_getD, hi]
def fmB (r : List Sp) : List Sp := if area r < 0 then turnR r else r
def fmR (r : List Sp) : List Sp := rotR (fmB r) (leL (fmB r))
theorem fmB_len (r : List Sp) : (fmB r).length = r.length := by unfold fmB; split <;> simp [turnR_len]
theorem fmR_len (r : List Sp) : (fmR r).length = r.length := by unfold fmR; rw [rotR_len, fmB_len]
end Go.Proofs.Ytdcajfgeleopiaa

/- Rows of rings: sizes. -/
namespace Go.Proofs.Ytdcajfgeleopiaa
open Go Go.RowKit

def rgC (r : List Sp) : List AV := [.isl (r.map Sp.cells)]
def rgs (L : List (List Sp)) : AV := .isl (L.map rgC)
end Go.Proofs.Ytdcajfgeleopiaa

/- Rows put one behind the other. -/
namespace Go.Proofs.Ytdcajfgeleopiaa
open Go Go.RowKit

theorem flat_step {L : List (List Sp)} {i : Nat} (h : i < L.length) : (L.take (i + 1)).flatten = (L.take i).flatten ++ gr L i := by
  rw [take_gr h, List.flatten_append]; simp
theorem flatS_len : ∀ (L : List (List Sp)), L.flatten.length = lyN L
  | [] => rfl
  | r :: R => by rw [List.flatten_cons, List.length_append, flatS_len R, lyN]
theorem lyN_le {L : List (List Sp)} (i : Nat) : lyN (L.take i) ≤ lyN L := by
  have := lyN_app (L.take i) (L.drop i)
  rw [List.take_append_drop] at this; omega
/-- The least spot's value, as the program finds it. -/
def mnS (l : List Sp) (i : Nat) : Sp := gs l (leI l (i - 1))
theorem mnS_one (l : List Sp) : mnS l 1 = gs l 0 := rfl
theorem mnS_step {l : List Sp} {i : Nat} (h : 1 ≤ i) : mnS l (i + 1) = if lsS (gs l i) (mnS l i) = true then gs l i else mnS l i := by
  obtain ⟨k, rfl⟩ : ∃ k, i = k + 1 := ⟨i - 1, by omega⟩
  unfold mnS
  simp only [Nat.add_sub_cancel]
  rw [leI]
  split <;> rfl
theorem mnS_end {l : List Sp} : mnS l l.length = gs l (leL l) := rfl
end Go.Proofs.Ytdcajfgeleopiaa

/- Walks: rings turned; rows of spots that are marked. -/
namespace Go.Proofs.Ytdcajfgeleopiaa
open Go Go.RowKit
set_option linter.unusedSimpArgs false
set_option linter.unusedVariables false
set_option maxRecDepth 100000
attribute [local simp] szT2 byT2 agT2 unT2 zoT2 szT3 byT3 agT3 unT3 zoT3 szT35 byT35 agT35 elT35 unT35 zoT35 szT37 byT37 agT37 flT37 fdT37_0 zoT37 szT41 byT41 agT41 elT41 unT41 zoT41 szT43 byT43 agT43 flT43 fdT43_0 zoT43 szT102 byT102 agT102 flT102 fdT102_0 fdT102_1 zoT102 szT158 byT158 agT158 flT158 fdT158_0 fdT158_1 zoT158

set_option maxHeartbeats 1000000 in
theorem toSpotS_own (l : List Sp) (hl : l.length ≤ 1048576) (nx : Nat) : ACall Try.prog 67 [.isl (l.map Sp.cells)] (fun _ => none) nx (own1 nx 2 (l.map Sp.cells) (fun id => .osl id 0 l.length)) := by
 refine .b Try.func67 23 fun K hK => ?_
 refine .q ?_
 refine .q ?_ (by simp (disch := first|omega|(simp only[ln];omega)) [if_pos, List.length_map]; rfl)
 refine .sq fun K3 hK3 => ?_
 refine .q ?_
 refine .block ?_
 refine .loop (fun N s => ∃ i id : Nat, N = l.length - i ∧ i ≤ l.length ∧ s.env 0 = .isl (l.map Sp.cells) ∧ s.env 3 = .osl id 0 l.length ∧ s.env 4 = .int .i64 (i : Int) ∧ s.heap id = some (2, fillR Sp.cells [.int .i64 0, .int .i64 0] l i) ∧ nx ≤ id ∧ id < s.nx ∧ s.nt = 23) (l.length) (⟨0, nx, by omega, by omega, by simp, by simp, by simp, by simp [← fillR_zero], by omega, by simp, rfl⟩) ?_
 rintro N ⟨e, H, mm, nt⟩ ⟨i, id, rfl, hi, h0, h3, h4, hH, hx1, hx2, rfl⟩
 simp only [] at h0 h3 h4 hH hx1 hx2
 refine .sq fun K5 hK5 => ?_
 refine .q ?_ (by simp (disch := first|omega|(simp only[ln];omega)) [h0, h4, List.length_map]; rfl)
 refine .c (fun h11 => ?_) (fun h11 => ?_)
 ·try simp only[dc]at h11
  have hi' : i < l.length := by omega
  obtain ⟨p, hpi⟩ : ∃ p, l[i]? = some p := ⟨l[i], by simp [hi']⟩
  have hpm : (l.map Sp.cells)[i]? = some p.cells := by rw [List.getElem?_map, hpi]; rfl
  have fst := fillR_set Sp.cells [.int .i64 0, .int .i64 0] l hpi
  simp only [Sp.cells] at fst
  have fl := fillR_len Sp.cells [.int .i64 0, .int .i64 0] l hi
  have fg := fillR_getE Sp.cells [.int .i64 0, .int .i64 0] l hi'
  refine .skip ?_
  refine hK5 _ ?_
  refine .sq fun K7 hK7 => ?_
  refine .block ?_
  refine .region ?_
  refine .kf 6 (toSpot_fc p) hb122 ?_ (by simp (disch := first|omega|(simp only[ln];omega)) [List.take_succ_cons, List.take_zero, if_pos, h0, h3, h4, hH, fl, fg, hpm, Sp.cells, Sg.cells, Sp.av, Sg.av, List.length_map]; rfl) (ha := by simp (disch := first|omega|(simp only[ln];omega)) [idf_Wd', if_pos, h0, h3, h4, hH, fl, fg, hpm, Sp.cells, Sg.cells, Sp.av, Sg.av, List.length_map])
  refine .e ?_ (by simp (disch := first|omega|(simp only[ln];omega)) [if_pos, h0, h3, h4, hH, fl, fg, hpm, Sp.cells, Sg.cells, Sp.av, Sg.av, List.length_map]; rfl)
  refine hK7 _ ?_
  refine .r ?_ (by simp (disch := first|omega|(simp only[ln];omega)) [h4]; rfl)
  refine ⟨l.length - (i + 1), by omega, i + 1, id, rfl, by omega, by simp [h0], by simp [h3], by simp (disch := omega) [h4], by simp [fst], hx1, by first | omega | (simp; done) | (simp; omega), rfl⟩
 ·try simp only[dc]at h11
  have hin : i = l.length := by omega
  rw [hin, fillR_all] at hH
  refine .exit ?_
  refine hK3 _ ?_
  refine .q ?_ (by simp (disch := first|omega|(simp only[ln];omega)) [h3]; rfl)
  refine .ret ?_
  exact hK _ _ _ _ _ trivial (Fin.own1 (Fin.mk (by simp (disch := omega) [aRes, aResL, aRes1]; try rfl)) (id := id) (by simp [hH])) (⟨id, by first | omega | (simp; done) | (simp; omega), by first | omega | (simp; done) | (simp; omega), rfl, rfl⟩)
section
attribute [local simp] Sp.av Sp.cells Sg.av Sg.cells
theorem toRing_own (r : List Sp) (hl : r.length ≤ 1048576) (nx : Nat) : ACall Try.prog 19 [.agg [.isl (r.map Sp.cells)]] (fun _ => none) nx (own1 nx 2 (r.map Sp.cells) (fun id => .agg [.osl id 0 r.length])) := by
 refine .b Try.func19 9 fun K hK => ?_
 refine .q ?_
 refine .q ?_
 refine .sq fun K3 hK3 => ?_
 refine .region ?_
 refine .k 2 ?_
 refine AOPS.ocallL 4 (toSpotS_own r hl _) rfl rfl rfl hb67 (by simp (disch := first|omega|(simp only[ln];omega)) [lv, idf_Wd']) (⟨fun _ h => by simp [nwr, nwrL]; try exact h, by simp [nwr, nwrL, Sp.cells, Sg.cells]⟩) (by simp (disch := first|omega|(simp only[ln];omega))) (by simp) ?_
 intro id nx2 hi1 hi2
 simp only [] at hi1 hi2
 simp only [puts_some, updo]
 refine .e ?_
 refine hK3 _ ?_
 refine .q ?_
 refine .ret ?_
 exact hK _ _ _ _ _ trivial (Fin.own1 (Fin.mk (by simp (disch := omega) [aRes, aResL, aRes1]; try rfl)) (id := id) (by simp (disch := omega))) (⟨id, by first | omega | (simp; done) | (simp; omega), by first | omega | (simp; done) | (simp; omega), rfl, rfl⟩)
set_option maxHeartbeats 1000000 in
theorem markSpotS_ac (n id : Nat) (es : List (List AV)) (k : Int) (HP : Heap) (nx : Nat) (hH : HP id = some (2, es)) (hn : es.length = n) (hw : ∀ row ∈ es, row.length = 2) (hk0 : 0 ≤ k) (hk1 : k ≤ 1000) (hn1 : n ≤ 1099511627776) : ACall Try.prog 72 [.osl id 0 n, .int .i64 k] HP nx (fun r H' nx' => r = .int .i64 (k + 2 * (n : Int)) ∧ H' = hupd HP id (some (2, mkR (m2 k) n)) ∧ nx' = nx) := by
 refine .b Try.func72 27 fun K hK => ?_
 refine .q ?_
 refine .sq fun K2 hK2 => ?_
 refine .q ?_
 refine .block ?_
 
 refine .loop (fun N s => ∃ i : Nat, N = n - i ∧ i ≤ n ∧ (s.heap = hupd HP id (some (2, cmR (m2 k) es i))) ∧ (s.nx = nx) ∧ s.env 0 = .osl id 0 n ∧ s.env 1 = .int .i64 (k + 2 * (i : Int)) ∧ s.env 5 = .int .i64 (i : Int) ∧ s.nt = 27) (n) (by refine ⟨0, by omega, by omega, by rw [cmR_zero]; exact (hupd_id hH).symm, rfl, ?_, ?_, ?_, rfl⟩ <;> first|(simp (disch := omega);done)|omega|(simp;done)|(simp;omega)|(simp (disch := omega) <;> omega)) ?_
 rintro N ⟨e, H, mm, nt⟩ ⟨i, rfl, hi, rfl, rfl, g0, g1, g5, rfl⟩
 simp only [] at g0 g1 g5
 refine .sq fun K4 hK4 => ?_
 refine .q ?_ (by simp (disch := first|omega|(simp only[ln];omega)) [g0, g5]; rfl)
 refine .c (fun h9 => ?_) (fun h9 => ?_)
 ·try simp only[dc]at h9
  have hi' : i < n := by omega
  obtain ⟨row, hrow⟩ : ∃ row, es[i]? = some row := ⟨es[i], by simp⟩
  have hrl := hw row (List.mem_of_getElem? hrow)
  obtain ⟨r0, r1, rfl⟩ : ∃ r0 r1, row = [r0, r1] := by
    match row, hrl with
    | [a, b], _ => exact ⟨a, b, rfl⟩
  have hget : (cmR (m2 k) es i)[i]? = some [r0, r1] := by rw [cmR_get]; exact hrow
  have hcl : (cmR (m2 k) es i).length = n := by rw [cmR_len _ _ (by omega)]; exact hn
  have hset : (cmR (m2 k) es i).set i [.int .i64 (k + 2 * (i : Int)), .int .i64 (k + 2 * (i : Int) + 1)] = cmR (m2 k) es (i + 1) := cmR_set (m2 k) es (i := i) (by omega)
  generalize cmR (m2 k) es i = C at *
  have hgE : ∀ h : i < C.length, C[i] = [r0, r1] := fun h => by rw [List.getElem?_eq_getElem h] at hget; simpa using hget
  refine .skip ?_
  refine hK4 _ ?_
  refine .sq fun K6 hK6 => ?_
  refine .block ?_
  refine .q ?_ (by simp (disch := first|omega|(simp only[ln];omega)) [if_pos, g0, g1, g5, hget, hcl, hgE]; rfl)
  refine .q ?_ (by simp (disch := first|omega|(simp only[ln];omega)) [g1]; rfl)
  refine .q ?_ (by simp (disch := first|omega|(simp only[ln];omega)) [if_pos, g0, g1, g5, hget, hcl, hgE]; rfl)
  refine .r ?_ (by simp (disch := first|omega|(simp only[ln];omega)) [g1]; rfl)
  refine hK6 _ ?_
  refine .r ?_ (by simp (disch := first|omega|(simp only[ln];omega)) [g5]; rfl)
  refine ⟨n - (i + 1), by omega, i + 1, rfl, by omega, by simp [hupd_same, List.set_set, hset], by simp, ?_, ?_, ?_, rfl⟩ <;> first|(simp (disch := omega) [g0, g1, g5];done)|omega|(simp;done)|(simp;omega)|(simp (disch := omega) [g0, g1, g5] <;> omega)
 ·try simp only[dc]at h9
  have hin : i = n := by omega
  subst hin
  subst hn
  refine .exit ?_
  refine hK2 _ ?_
  refine .q ?_ (by simp (disch := first|omega|(simp only[ln];omega)) [g1]; rfl)
  refine .ret ?_
  exact hK _ _ _ _ _ trivial ((Fin.m)) (⟨rfl, by rw [cmR_end], rfl⟩)
set_option maxHeartbeats 1000000 in
theorem heldSpotS_fc (n : Nat) (k : Int) (hk0 : 0 ≤ k) (hk1 : k ≤ 1000) (hn1 : n ≤ 1099511627776) : FC Try.prog 101 [.isl (mkR (m2 k) n), .int .i64 k] (.int .i64 (k + 2 * (n : Int))) := by
 refine .b Try.func101 31 (fun nx K hK => ?_) (hi := by simp [idfL, idf, idfLL_iff, mkR, m2])
 refine .q ?_
 refine .sq fun K2 hK2 => ?_
 refine .q ?_
 refine .block ?_
 
 refine .loop (fun N s => ∃ i : Nat, N = n - i ∧ i ≤ n ∧ s.env 0 = .isl (mkR (m2 k) n) ∧ s.env 1 = .int .i64 (k + 2 * (i : Int)) ∧ s.env 5 = .int .i64 (i : Int) ∧ s.nt = 31) (n) (by refine ⟨0, by omega, by omega, ?_, ?_, ?_, rfl⟩ <;> first|(simp (disch := omega);done)|omega|(simp;done)|(simp;omega)|(simp (disch := omega) <;> omega)) ?_
 rintro N ⟨e, H, mm, nt⟩ ⟨i, rfl, hi, g0, g1, g5, rfl⟩
 simp only [] at g0 g1 g5
 refine .sq fun K4 hK4 => ?_
 refine .q ?_ (by simp (disch := first|omega|(simp only[ln];omega)) [g0, g5, mkR_len]; rfl)
 refine .c (fun h9 => ?_) (fun h9 => ?_)
 ·try simp only[dc]at h9
  have hi' : i < n := by omega
  have hat : (mkR (m2 k) n)[i]? = some [.int .i64 (k + 2 * (i : Int)), .int .i64 (k + 2 * (i : Int) + 1)] := mkR_get (m2 k) hi'
  refine .skip ?_
  refine hK4 _ ?_
  refine .sq fun K6 hK6 => ?_
  refine .block ?_
  refine .sq fun K7 hK7 => ?_
  refine .q ?_ (by simp (disch := first|omega|(simp only[ln];omega)) [if_pos, g0, g1, g5, hat, mkR_len]; rfl)
  refine .c (fun h18 => ?_) (fun h18 => ?_)
  ·simp at h18
  ·try simp only[dc]at h18
   refine .skip ?_
   refine hK7 _ ?_
   refine .q ?_ (by simp (disch := first|omega|(simp only[ln];omega)) [g1]; rfl)
   refine .sq fun K10 hK10 => ?_
   refine .q ?_ (by simp (disch := first|omega|(simp only[ln];omega)) [if_pos, g0, g5, hat, mkR_len]; rfl)
   refine .c (fun h27 => ?_) (fun h27 => ?_)
   ·simp at h27
   ·try simp only[dc]at h27
    refine .skip ?_
    refine hK10 _ ?_
    refine .r ?_
    refine hK6 _ ?_
    refine .r ?_ (by simp (disch := first|omega|(simp only[ln];omega)) [g5]; rfl)
    refine ⟨n - (i + 1), by omega, i + 1, rfl, by omega, ?_, ?_, ?_, rfl⟩ <;> first|(simp (disch := omega) [g0, g1, g5];done)|omega|(simp;done)|(simp;omega)|(simp (disch := omega) [g0, g1, g5] <;> omega)
 ·try simp only[dc]at h9
  have hin : i = n := by omega
  subst hin
  refine .exit ?_
  refine hK2 _ ?_
  refine .q ?_ (by simp (disch := first|omega|(simp only[ln];omega)) [g1]; rfl)
  refine .ret ?_
  exact hK _ _ _ _ trivial ((Fin.m))
theorem heldRing_fc (n : Nat) (k : Int) (hk0 : 0 ≤ k) (hk1 : k ≤ 1000) (hn1 : n ≤ 1099511627776) : FC Try.prog 46 [.agg [.isl (mkR (m2 k) n)], .int .i64 k] (.int .i64 (k + 2 * (n : Int))) := by
 refine .b Try.func46 12 (fun nx K hK => ?_) (hi := by simp [idfL, idf, idfLL_iff, mkR, m2])
 refine .q ?_
 refine .sq fun K2 hK2 => ?_
 refine .region ?_
 refine .kf 3 (heldSpotS_fc n k hk0 hk1 hn1) hb101 ?_
 refine .e ?_
 refine hK2 _ ?_
 refine .sq fun K3 hK3 => ?_
 refine .q ?_
 refine .c (t := decide (k + 2 * (n : Int) < 0)) (fun h10 => ?_) (fun h10 => ?_)
 ·simp at h10; omega
 ·try simp only[dc]at h10
  refine .skip ?_
  refine hK3 _ ?_
  refine .q ?_
  refine .ret ?_
  exact hK _ _ _ _ trivial ((Fin.m))
theorem markSpotS_nil (k : Int) (hk0 : 0 ≤ k) (hk1 : k ≤ 1000) : FC Try.prog 72 [.isl [], .int .i64 k] (.int .i64 k) := by
 refine .b Try.func72 27 (fun nx K hK => ?_)
 refine .q ?_
 refine .sq fun K2 hK2 => ?_
 refine .q ?_
 refine .block ?_
 
 refine .loop (fun N s => ∃ i : Nat, N = 0 - i ∧ i ≤ 0 ∧ s.env 0 = .isl [] ∧ s.env 1 = .int .i64 k ∧ s.env 5 = .int .i64 (i : Int) ∧ s.nt = 27) (0) (by refine ⟨0, by omega, by omega, ?_, ?_, ?_, rfl⟩ <;> first|(simp (disch := omega);done)|omega|(simp;done)|(simp;omega)) ?_
 rintro N ⟨e, H, mm, nt⟩ ⟨i, rfl, hi, g0, g1, g5, rfl⟩
 simp only [] at g0 g1 g5
 refine .sq fun K4 hK4 => ?_
 refine .q ?_ (by simp (disch := first|omega|(simp only[ln];omega)) [g0, g5]; rfl)
 refine .c (fun h9 => ?_) (fun h9 => ?_)
 ·first | omega | (simp at h9; done) | (simp at h9; omega)
 ·try simp only[dc]at h9
  refine .exit ?_
  refine hK2 _ ?_
  refine .q ?_ (by simp (disch := first|omega|(simp only[ln];omega)) [g1]; rfl)
  refine .ret ?_
  exact hK _ _ _ _ trivial ((Fin.m))
theorem heldSpotS_nil (k : Int) (hk0 : 0 ≤ k) (hk1 : k ≤ 1000) : FC Try.prog 101 [.isl [], .int .i64 k] (.int .i64 k) := by
 refine .b Try.func101 31 (fun nx K hK => ?_)
 refine .q ?_
 refine .sq fun K2 hK2 => ?_
 refine .q ?_
 refine .block ?_
 
 refine .loop (fun N s => ∃ i : Nat, N = 0 - i ∧ i ≤ 0 ∧ s.env 0 = .isl [] ∧ s.env 1 = .int .i64 k ∧ s.env 5 = .int .i64 (i : Int) ∧ s.nt = 31) (0) (by refine ⟨0, by omega, by omega, ?_, ?_, ?_, rfl⟩ <;> first|(simp (disch := omega);done)|omega|(simp;done)|(simp;omega)) ?_
 rintro N ⟨e, H, mm, nt⟩ ⟨i, rfl, hi, g0, g1, g5, rfl⟩
 simp only [] at g0 g1 g5
 refine .sq fun K4 hK4 => ?_
 refine .q ?_ (by simp (disch := first|omega|(simp only[ln];omega)) [g0, g5]; rfl)
 refine .c (fun h9 => ?_) (fun h9 => ?_)
 ·first | omega | (simp at h9; done) | (simp at h9; omega)
 ·try simp only[dc]at h9
  refine .exit ?_
  refine hK2 _ ?_
  refine .q ?_ (by simp (disch := first|omega|(simp only[ln];omega)) [g1]; rfl)
  refine .ret ?_
  exact hK _ _ _ _ trivial ((Fin.m))
theorem markRing_ac (n id : Nat) (es : List (List AV)) (k : Int) (HP : Heap) (nx : Nat) (hH : HP id = some (2, es)) (hid : id < nx) (hn : es.length = n) (hw : ∀ row ∈ es, row.length = 2) (hk0 : 0 ≤ k) (hk1 : k ≤ 1000) (hn1 : n ≤ 1099511627776) : ACall Try.prog 23 [.agg [.osl id 0 n], .int .i64 k] HP nx (fun r H' nx' => r = .int .i64 (k + 2 * (n : Int)) ∧ H' id = some (2, mkR (m2 k) n) ∧ (∀ i, i < nx → i ≠ id → H' i = HP i) ∧ nx ≤ nx') := by
 refine .b Try.func23 10 fun K hK => ?_
 refine .q ?_
 refine .sq fun K2 hK2 => ?_
 refine .region ?_
 refine .k 3 ?_
 refine .a (markSpotS_ac n id es k _ _ (by simp (disch := omega) [hH]) hn hw hk0 hk1 hn1) hb72 ?_
 rintro _ _ _ ⟨rfl, rfl, rfl⟩
 refine .e ?_
 refine hK2 _ ?_
 refine .q ?_
 refine .ret ?_
 exact hK _ _ _ _ _ trivial ((Fin.m)) (⟨rfl, by simp (disch := omega), fun i h1 h2 => by simp (disch := omega) [h2], by simp⟩)
theorem markRing_nil (k : Int) (hk0 : 0 ≤ k) (hk1 : k ≤ 1000) : FC Try.prog 23 [.agg [.isl []], .int .i64 k] (.int .i64 k) := by
 refine .b Try.func23 10 (fun nx K hK => ?_)
 refine .q ?_
 refine .sq fun K2 hK2 => ?_
 refine .region ?_
 refine .kf 3 (markSpotS_nil k hk0 hk1) hb72 ?_
 refine .e ?_
 refine hK2 _ ?_
 refine .q ?_
 refine .ret ?_
 exact hK _ _ _ _ trivial ((Fin.m))
theorem heldRing_nil (k : Int) (hk0 : 0 ≤ k) (hk1 : k ≤ 1000) : FC Try.prog 46 [.agg [.isl []], .int .i64 k] (.int .i64 k) := by
 refine .b Try.func46 12 (fun nx K hK => ?_)
 refine .q ?_
 refine .sq fun K2 hK2 => ?_
 refine .region ?_
 refine .kf 3 (heldSpotS_nil k hk0 hk1) hb101 ?_
 refine .e ?_
 refine hK2 _ ?_
 refine .sq fun K3 hK3 => ?_
 refine .q ?_
 refine .c (t := decide (k < 0)) (fun h10 => ?_) (fun h10 => ?_)
 ·simp at h10; omega
 ·try simp only[dc]at h10
  refine .skip ?_
  refine hK3 _ ?_
  refine .q ?_
  refine .ret ?_
  exact hK _ _ _ _ trivial ((Fin.m))
theorem cloneSp_own (p : Sp) (l : List Sp) (hl : l.length ≤ 1099511627776) (nx : Nat) : ACall Try.prog 146 [.isl ((p :: l).map Sp.cells)] (fun _ => none) nx (own1 nx 2 ((p :: l).map Sp.cells) (fun id => .osl id 0 (p :: l).length)) := by
 have hc1 : (l.length + 1) * 16 ≤ 140737488355328 := by omega
 have hc2 : l.length ≤ 9223372036854775806 := by omega
 refine .b Try.func146 8 fun K hK => ?_
 refine .q ?_
 refine .sq fun K2 hK2 => ?_
 refine .sq fun K3 hK3 => ?_
 refine AWP.region ?_
 refine AOPS.runk 1 (by simp (disch := first|omega|(simp only[ln];omega)) [List.take_succ_cons, List.take_zero]; rfl) ?_
 simp only [List.drop_succ_cons, List.drop_zero]
 refine AOPS.isnilG (c0 := .int .i64 p.x) (cs := [.int .i64 p.y]) (r := l.map Sp.cells) rfl unT41 (by simp) (by simp) (by simp) ?_
 simp only [puts_some]
 refine AOPS.nil ?_
 refine hK3 _ ?_
 refine .c (fun h4 => ?_) (fun h4 => ?_)
 ·simp at h4
 ·try simp only[dc]at h4
  refine .skip ?_
  refine hK2 _ ?_
  refine .sq fun K4 hK4 => ?_
  refine .region ?_
  refine .k 2 ?_
  refine AOPS.opapp (by simp (disch := first|omega|(simp only[ln];omega)) [opApp.eq_def, aSrc_isl, aSrc_osl, aSrc_nsl, aSrc_int, wd_app, wd_app2, if_pos, wd_append, wd_take, wd_drop, List.nil_append, hc1, hc2, src_Wd' (P := Try.prog) elT41]; first | rfl | exact ⟨rfl, rfl⟩ | exact ⟨rfl, rfl, rfl⟩) (by simp) (by simp) ?_
  simp only [puts_some, hdrop]
  refine .e ?_
  refine hK4 _ ?_
  refine .ret ?_
  exact hK _ _ _ _ _ trivial (Fin.own1 (Fin.mk (by simp (disch := omega) [aRes, aResL, aRes1]; try rfl)) (id := (nx + 1)) (by simp (disch := omega) [Sp.cells])) (⟨(nx + 1), by first | omega | (simp; done) | (simp; omega), by first | omega | (simp; done) | (simp; omega), rfl, rfl⟩)
set_option maxHeartbeats 2000000 in
theorem reverseSp_ac (l : List Sp) (s m id : Nat) (HP : Heap) (nx : Nat) (hH : HP id = some (2, l.map Sp.cells)) (hid : id < nx) (hs : s + m ≤ l.length) (hl : l.length ≤ 1099511627776) : ACall Try.prog 147 [.osl id s m] HP nx (fun r H' nx' => r = .tup [] ∧ (∃ i, m ≤ 2 * i + 1 ∧ H' = hupd HP id (some (2, (revI l s m i).map Sp.cells))) ∧ nx ≤ nx') := by
 refine .b Try.func147 28 fun K hK => ?_
 refine .q ?_ (by simp (disch := first|omega|(simp only[ln];omega)) [hH]; rfl)
 refine .block ?_
 
 refine .loop (fun N st => ∃ i : Nat, N = m - i ∧ i ≤ m ∧ (st.heap = hupd HP id (some (2, (revI l s m i).map Sp.cells))) ∧ (nx ≤ st.nx) ∧ st.env 0 = .osl id s m ∧ st.env 2 = .int .i64 (i : Int) ∧ st.env 3 = .int .i64 ((m : Int) - 1 - (i : Int)) ∧ st.nt = 28) (m) (by refine ⟨0, by omega, by omega, by rw [revI_zero]; exact (hupd_id hH).symm, Nat.le_refl _, ?_, ?_, ?_, rfl⟩ <;> first|(simp (disch := omega);done)|omega|(simp;done)|(simp;omega)|(simp (disch := omega) <;> omega)) ?_
 rintro N ⟨e, H, mm, nt⟩ ⟨i, rfl, hi, rfl, hnx, g0, g2, g3, rfl⟩
 simp only [] at g0 g2 g3
 refine .sq fun K2 hK2 => ?_
 refine .q ?_ (by simp (disch := first|omega|(simp only[ln];omega)) [g2, g3]; rfl)
 refine .c (fun h9 => ?_) (fun h9 => ?_)
 ·try simp only[dc]at h9
  simp only [] at hnx
  have hi' : 2 * i + 1 < m := by omega
  obtain ⟨j, hj⟩ : ∃ j : Nat, j = m - 1 - i := ⟨_, rfl⟩
  have hji : (m : Int) - 1 - i = j := by omega
  have hlo : ((revI l s m i).map Sp.cells)[s + i]? = some [.int .i64 (gs l (s + i)).x, .int .i64 (gs l (s + i)).y] := by rw [List.getElem?_map, revI_lo hs hi']; rfl
  have hhi : ((revI l s m i).map Sp.cells)[s + j]? = some [.int .i64 (gs l (s + j)).x, .int .i64 (gs l (s + j)).y] := by rw [hj, List.getElem?_map, revI_hi hs hi']; rfl
  have hset : (((revI l s m i).map Sp.cells).set (s + i) [.int .i64 (gs l (s + j)).x, .int .i64 (gs l (s + j)).y]).set (s + j) [.int .i64 (gs l (s + i)).x, .int .i64 (gs l (s + i)).y] = (revI l s m (i + 1)).map Sp.cells := by
    rw [← revI_step hs hi', ← hj, List.map_set, List.map_set]; rfl
  have hcl : ((revI l s m i).map Sp.cells).length = l.length := by rw [List.length_map, revI_len]
  generalize (revI l s m i).map Sp.cells = C at *
  have hh2 : ∀ x, (C.set (s + i) x)[s + j]? = some [.int .i64 (gs l (s + j)).x, .int .i64 (gs l (s + j)).y] := fun x => by rw [List.getElem?_set_ne (by omega)]; exact hhi
  have hgI : ∀ h : s + i < C.length, C[s + i] = [.int .i64 (gs l (s + i)).x, .int .i64 (gs l (s + i)).y] := fun h => by rw [List.getElem?_eq_getElem h] at hlo; simpa using hlo
  have hgJ : ∀ h : s + j < C.length, C[s + j] = [.int .i64 (gs l (s + j)).x, .int .i64 (gs l (s + j)).y] := fun h => by rw [List.getElem?_eq_getElem h] at hhi; simpa using hhi
  have hgK : ∀ (x : List AV) (h : s + j < (C.set (s + i) x).length), (C.set (s + i) x)[s + j] = [.int .i64 (gs l (s + j)).x, .int .i64 (gs l (s + j)).y] := fun x h => by have := hh2 x; rw [List.getElem?_eq_getElem h] at this; simpa using this
  have hil : s + i < l.length := by omega
  have hjl : s + j < l.length := by omega
  refine .skip ?_
  refine hK2 _ ?_
  refine .sq fun K4 hK4 => ?_
  refine .block ?_
  refine .old fun hold => ?_
  refine .d 13 ?_
  refine .k 2 (fun fs5 hfs5 => ?_) (by simp (disch := first|omega|(simp only[ln];omega)) [runDf.eq_def, runF1, runF2, stepF.eq_def, updo.eq_def, hupo.eq_def, opSto1.eq_def, List.take_succ_cons, List.take_zero, if_pos, g0, g2, g3, hji, hlo, hhi, hh2, hcl, hgI, hgJ, hgK, hil, hjl, List.length_set]; rfl)
  refine DP.runF1q (by simp (disch := first|omega|(simp only[ln];omega)) [runDf.eq_def, runF1, runF2, stepF.eq_def, updo.eq_def, hupo.eq_def, opSto1.eq_def, if_pos, g0, g2, g3, hji, hlo, hhi, hh2, hcl, hgI, hgJ, hgK, hil, hjl, List.length_set]; rfl) fun fq6 hfq6 => ?_
  simp [qids, asksB, Op.operands, topId] at hfq6
  simp only [updo]
  refine DP.runF1q (by simp (disch := first|omega|(simp only[ln];omega)) [runDf.eq_def, runF1, runF2, stepF.eq_def, updo.eq_def, hupo.eq_def, opSto1.eq_def, if_pos, g0, g2, g3, hji, hlo, hhi, hh2, hcl, hgI, hgJ, hgK, hil, hjl, List.length_set]; rfl) fun fq7 hfq7 => ?_
  simp [qids, asksB, Op.operands, topId] at hfq7
  simp only [updo]
  refine .k 9 (fun fs8 hfs8 => ?_) (by simp (disch := first|omega|(simp only[ln];omega)) [runDf.eq_def, runF1, runF2, stepF.eq_def, updo.eq_def, hupo.eq_def, opSto1.eq_def, List.take_succ_cons, List.take_zero, if_pos, g0, g2, g3, hji, hlo, hhi, hh2, hcl, hgI, hgJ, hgK, hil, hjl, List.length_set]; rfl)
  refine DQ.stoT (m := 13) [2, 3] _ (by simp (disch := first|omega|(simp only[ln];omega)) [runDf.eq_def, runF1, runF2, stepF.eq_def, updo.eq_def, hupo.eq_def, opSto1.eq_def, if_pos, g0, g2, g3, hji, hlo, hhi, hh2, hcl, hgI, hgJ, hgK, hil, hjl, List.length_set]; rfl) rfl (by simp only[ln, hfs5, hfs8];omega) (by kernel_rfl) (by intro k f hk hex; simp only [List.mem_cons, List.not_mem_nil, or_false] at hex; rcases hex with rfl | rfl <;> (simp [List.getElem?_append, hfs5, hfs8] at hk; subst hk; refine ⟨?_, by first | omega | (simp; done) | (simp; omega)⟩; simp [qids, asksB, Op.operands, Call.operands, topId, numS, numI, Wd, hfq6, hfq7, g0, g2, g3]; try omega)) ?_
  try simp only []
  refine DQ.val1 _ (by simp (disch := first|omega|(simp only[ln];omega)) [runDf.eq_def, runF1, runF2, stepF.eq_def, updo.eq_def, hupo.eq_def, opSto1.eq_def, if_pos, g0, g2, g3, hji, hlo, hhi, hh2, hcl, hgI, hgJ, hgK, hil, hjl, List.length_set]; rfl) rfl ?_
  simp only [updo]
  refine DQ.stoT (m := 13) [] _ (by simp (disch := first|omega|(simp only[ln];omega)) [runDf.eq_def, runF1, runF2, stepF.eq_def, updo.eq_def, hupo.eq_def, opSto1.eq_def, if_pos, g0, g2, g3, hji, hlo, hhi, hh2, hcl, hgI, hgJ, hgK, hil, hjl, List.length_set]; rfl) rfl (by simp only[ln, hfs5, hfs8];omega) (by kernel_rfl) (by intro k f hk hex; simp only [List.not_mem_nil] at hex) ?_
  try simp only []
  refine hK4 _ ?_
  refine .r ?_ (by simp (disch := first|omega|(simp only[ln];omega)) [g2, g3]; rfl)
  refine ⟨m - (i + 1), by omega, i + 1, rfl, by omega, by simp [hupd_same, hset], by simp; omega, ?_, ?_, ?_, rfl⟩ <;> first|(simp (disch := omega) [g0, g2, g3];done)|omega|(simp;done)|(simp;omega)|(simp (disch := omega) [g0, g2, g3] <;> omega)
 ·try simp only[dc]at h9
  refine .exit ?_
  exact hK _ _ _ _ _ trivial ((Fin.m)) (⟨rfl, ⟨i, by omega, rfl⟩, hnx⟩)
set_option maxHeartbeats 1000000 in
theorem turned_own (r : List Sp) (hl0 : 1 ≤ r.length) (hl : r.length ≤ 1099511627776) (nx : Nat) : ACall Try.prog 91 [.agg [.isl (r.map Sp.cells)]] (fun _ => none) nx (own1 nx 2 ((turnR r).map Sp.cells) (fun id => .agg [.osl id 0 r.length])) := by
 obtain ⟨p, l, rfl⟩ : ∃ p l, r = p :: l := by
   cases r with
   | nil => simp at hl0
   | cons p l => exact ⟨p, l, rfl⟩
 have hl' : l.length ≤ 1099511627776 := by simp at hl; omega
 obtain ⟨n, hn⟩ : ∃ n, (p :: l).length = n := ⟨_, rfl⟩
 obtain ⟨R0, hR0⟩ : ∃ R0, p :: l = R0 := ⟨_, rfl⟩
 have hcl := fun nx => cloneSp_own p l hl' nx
 rw [hR0] at hcl hn ⊢
 rw [hn] at hcl ⊢
 have hn1 : 1 ≤ n := by rw [← hn, ← hR0]; simp
 have hn2 : n ≤ 1099511627776 := by rw [← hn, ← hR0]; exact hl
 have hml : (List.map Sp.cells R0).length = n := by rw [List.length_map]; exact hn
 refine .b Try.func91 12 fun K hK => ?_
 refine .q ?_
 refine .sq fun K2 hK2 => ?_
 refine .region ?_
 refine .k 2 ?_
 refine AOPS.ocallL 4 (hcl _) rfl rfl rfl hb146 (by simp (disch := first|omega|(simp only[ln];omega)) [lv, idf_Wd', lv_sp, lv_sg, lv_m2, lv_int, lv_bool, lv_nsl, List.map_map]) (⟨fun _ h => by simp [nwr, nwrL]; try exact h, by simp [nwr, nwrL, Sp.cells, Sg.cells]⟩) (by simp (disch := first|omega|(simp only[ln];omega))) (by simp) ?_
 intro id nx2 hi1 hi2
 simp only [] at hi1 hi2
 simp only [puts_some, updo]
 refine .e ?_
 refine hK2 _ ?_
 refine .sq fun K3 hK3 => ?_
 refine .region ?_
 refine .k 2 ?_ (by simp (disch := first|omega|(simp only[ln];omega)) [List.take_succ_cons, List.take_zero, if_pos, hn, hn1, hml]; rfl)
 refine .a (reverseSp_ac R0 1 (n - 1) id _ _ (by simp (disch := omega)) (by first | omega | (simp; omega)) (by omega) (by omega)) hb147 ?_ (ha := by simp (disch := first|omega|(simp only[ln];omega)) [idf_Wd', if_pos, hn, hn1, hml])
 rintro _ _ nx3 ⟨rfl, ⟨i, hi, rfl⟩, hnx3⟩
 simp only [] at hnx3
 have hre := revI_end (l := R0) (i := i) (by omega) (by omega)
 rw [hn] at hre
 rw [hre]
 refine .nil ?_
 refine hK3 _ ?_
 refine .q ?_
 refine .ret ?_
 exact hK _ _ _ _ _ trivial (Fin.own1 (Fin.mk (by simp (disch := omega) [aRes, aResL, aRes1]; try rfl)) (id := id) (by simp (disch := omega))) (⟨id, by first | omega | (simp; done) | (simp; omega), by first | omega | (simp; done) | (simp; omega), rfl, rfl⟩)
set_option maxHeartbeats 1000000 in
theorem ringTurnedS_fc (r : List Sp) (hl : r.length ≤ 1099511627776) (hz : rgF r = 0) : FC Try.prog 99 [.agg [.isl (r.map Sp.cells)]] (.agg [.isl ((turnR r).map Sp.cells)]) := by
 obtain ⟨z1, z2, _⟩ := rgF_zero hz
 have hd : decide (rgF r = 0) = true := decide_eq_true hz
 have hat0 := rg_at (r := r) (i := 0) (by omega)
 have hte := turnS_end (l := r) (by omega)
 refine .b Try.func99 32 (fun nx K hK => ?_) (hi := by simp [idfL, idf, idfLL_iff, Sp.av, Sp.cells, Sg.av, Sg.cells]) (hr := by simp [idfL, idf, idfLL_iff, Sp.av, Sp.cells, Sg.av, Sg.cells])
 refine .q ?_
 refine .sq fun K2 hK2 => ?_
 refine .sq fun K3 hK3 => ?_
 refine .region ?_
 refine .kf 1 (l5Ok_fc r hl) hb65 ?_ (by simp (disch := first|omega|(simp only[ln];omega)) [List.take_succ_cons, List.take_zero, hd]; rfl) (ha := by simp (disch := first|omega|(simp only[ln];omega)) [idf_Wd', hd])
 refine .e ?_ (by simp (disch := first|omega|(simp only[ln];omega)) [hd]; rfl)
 refine hK3 _ ?_
 refine .c (fun h7 => ?_) (fun h7 => ?_)
 ·simp at h7
 ·try simp only[dc]at h7
  refine .skip ?_
  refine hK2 _ ?_
  refine .q ?_ (by simp (disch := first|omega|(simp only[ln];omega)) [if_pos, hat0, List.length_map]; rfl)
  refine .sq fun K5 hK5 => ?_
  refine .q ?_ (by simp (disch := first|omega|(simp only[ln];omega)) [List.length_map]; rfl)
  refine .block ?_
  
  refine .loop (fun N s => ∃ k : Nat, ∃ id : Nat, N = (r.length - 1) - k ∧ k ≤ (r.length - 1) ∧ (nx + 1 < id) ∧ s.env 1 = .ptr nx 0 0 ∧ s.env 2 = .ptr (nx + 1) 0 0 ∧ s.env 3 = .osl id 0 (k + 1) ∧ s.env 4 = .int .i64 ((r.length : Int) - 1 - (k : Int)) ∧ s.heap nx = some (1, [[.isl (r.map Sp.cells)]]) ∧ nx < s.nx ∧ s.heap (nx + 1) = some (1, [[.nsl]]) ∧ (nx + 1) < s.nx ∧ s.heap id = some (2, (turnS r k).map Sp.cells) ∧ id < s.nx ∧ s.nt = 32) ((r.length - 1)) (by refine ⟨0, (nx + 1 + 1), by omega, by omega, by omega, ?_, ?_, ?_, ?_, ?_, ?_, ?_, ?_, ?_, ?_, rfl⟩ <;> first|(simp (disch := omega) [turnS, Sp.cells];done)|omega|(simp;done)|(simp;omega)|(simp (disch := omega) [turnS, Sp.cells] <;> omega)) ?_
  rintro N ⟨e, H, mm, nt⟩ ⟨k, id, rfl, hk, hid, g1, g2, g3, g4, Hr, xr, Hz, xz, Ho, xo, rfl⟩
  simp only [] at g1 g2 g3 g4 Hr xr Hz xz Ho xo
  refine .sq fun K7 hK7 => ?_
  refine .q ?_ (by simp (disch := first|omega|(simp only[ln];omega)) [g4]; rfl)
  refine .c (fun h19 => ?_) (fun h19 => ?_)
  ·try simp only[dc]at h19
   have hk' : k < r.length - 1 := by omega
   obtain ⟨j, hj⟩ : ∃ j : Nat, j = r.length - 1 - k := ⟨_, rfl⟩
   have hji : (r.length : Int) - 1 - k = j := by omega
   have hat := rg_at (r := r) (i := j) (by omega)
   have hst : (turnS r (k + 1)).map Sp.cells = (turnS r k).map Sp.cells ++ [[.int .i64 (gs r j).x, .int .i64 (gs r j).y]] := by rw [turnS_step, List.map_append, hj]; rfl
   have htl := turnS_len r k
   have htk2 : List.take (k + 1) (List.map Sp.cells (turnS r k)) = List.map Sp.cells (turnS r k) := List.take_of_length_le (by rw [List.length_map]; omega)
   have hc1 : (k + 1 + 1) * 16 ≤ 140737488355328 := by omega
   have hc2 : k ≤ 9223372036854775805 := by omega
   refine .skip ?_
   refine hK7 _ ?_
   refine .sq fun K9 hK9 => ?_
   refine .block ?_
   refine .region ?_
   refine .k 7 ?_ (by simp (disch := first|omega|(simp only[ln];omega)) [List.take_succ_cons, List.take_zero, if_pos, g1, g3, g4, Hr, Ho, hji, hat, htl, hc1, hc2, List.length_map]; rfl)
   refine AOPS.opapp (by simp (disch := first|omega|(simp only[ln];omega)) [opApp.eq_def, aSrc_isl, aSrc_osl, aSrc_nsl, aSrc_int, wd_app, wd_app2, if_pos, wd_append, wd_take, wd_drop, List.nil_append, g1, g3, g4, Hr, Ho, hji, hat, htl, hc1, hc2, List.length_map, src_Wd' (P := Try.prog) elT41]; first | rfl | exact ⟨rfl, rfl⟩ | exact ⟨rfl, rfl, rfl⟩) (by simp) (by simp) ?_
   simp only [puts_some, hdrop]
   refine .e ?_ (by simp (disch := first|omega|(simp only[ln];omega)) [if_pos, g1, g3, g4, Hr, Ho, hji, hat, htl, hc1, hc2, List.length_map]; rfl)
   refine hK9 _ ?_
   refine .r ?_ (by simp (disch := first|omega|(simp only[ln];omega)) [g4]; rfl)
   refine ⟨(r.length - 1) - (k + 1), by omega, k + 1, (mm + 1), rfl, by omega, by omega, ?_, ?_, ?_, ?_, ?_, ?_, ?_, ?_, ?_, ?_, rfl⟩ <;> first|(simp (disch := omega) [g1, g2, g3, g4, Hr, Hz, Ho, hst, htk2];done)|omega|(simp;done)|(simp;omega)|(simp (disch := omega) [g1, g2, g3, g4, Hr, Hz, Ho, hst, htk2] <;> omega)
  ·try simp only[dc]at h19
   have hke : k = r.length - 1 := by omega
   subst hke
   rw [hte] at Ho
   have hkl : r.length - 1 + 1 = r.length := by omega
   rw [hkl] at g3
   refine .exit ?_
   refine hK5 _ ?_
   refine .q ?_ (by simp (disch := first|omega|(simp only[ln];omega)) [g2, g3, Hz]; rfl)
   refine .ret ?_
   exact hK _ _ _ _ trivial (((Fin.mk (r := .agg [.osl id 0 r.length]) (by simp (disch := omega) [aRes, aResL, aRes1, g2]; try rfl)).freeze (id := id) (z := 2) (es := (turnR r).map Sp.cells) (by simp (disch := omega) [Ho])).cast (by simp only [fz, fzL]; exact congrArg (fun x => AV.agg [x]) (by have := fz_fill (id := id) Sp.cells (turnR r) (turnR_len r).symm; simpa [fz] using this)))
end

end Go.Proofs.Ytdcajfgeleopiaa

/- Walks: rings in their form; FnExactRingForm, walked. -/
namespace Go.Proofs.Ytdcajfgeleopiaa
open Go Go.RowKit
set_option linter.unusedSimpArgs false
set_option linter.unusedVariables false
set_option maxRecDepth 100000
attribute [local simp] szT2 byT2 agT2 unT2 zoT2 szT3 byT3 agT3 unT3 zoT3 szT41 byT41 agT41 elT41 unT41 zoT41 szT102 byT102 agT102 flT102 fdT102_0 fdT102_1 zoT102 szT175 byT175 agT175 elT175 unT175 zoT175

theorem toRing_len (r : List Sp) : ∀ row ∈ r.map Sp.cells, row.length = 2 := by intro row h; obtain ⟨p, _, rfl⟩ := List.mem_map.1 h; rfl
theorem mkR_take (f : Nat → List AV) (n : Nat) : List.take n (mkR f n) = mkR f n := List.take_of_length_le (by rw [mkR_len]; omega)
theorem markRing_nil2 (k : Int) (hk0 : 0 ≤ k) (hk1 : k ≤ 1000) : FC Try.prog 23 [.agg [.nsl], .int .i64 k] (.int .i64 k) := (markRing_nil k hk0 hk1).args fun w β b vs h => by
  obtain ⟨v, r, e, ⟨us, e2, ⟨v1, r1, e1, h1, h2⟩⟩, h3⟩ := h
  exact ⟨v, r, e, ⟨us, e2, ⟨v1, r1, e1, ⟨none, 0, 2, [], h1, by simp, rfl, by intro e vs h; simp at h⟩, h2⟩⟩, h3⟩
theorem heldRing_nil2 (k : Int) (hk0 : 0 ≤ k) (hk1 : k ≤ 1000) : FC Try.prog 46 [.agg [.nsl], .int .i64 k] (.int .i64 k) := (heldRing_nil k hk0 hk1).args fun w β b vs h => by
  obtain ⟨v, r, e, ⟨us, e2, ⟨v1, r1, e1, h1, h2⟩⟩, h3⟩ := h
  exact ⟨v, r, e, ⟨us, e2, ⟨v1, r1, e1, ⟨none, 0, 2, [], h1, by simp, rfl, by intro e vs h; simp at h⟩, h2⟩⟩, h3⟩
theorem eqRing_nil2 : FC Try.prog 22 [.agg [.nsl], .agg [.nsl]] (.bool true) := (eqRing_fc [] (by simp)).args fun w β b vs h => by
  obtain ⟨v, r, e, ⟨us, e2, ⟨v1, r1, e1, h1, h2⟩⟩, ⟨v', r', e', ⟨us', e2', ⟨v1', r1', e1', h1', h2'⟩⟩, h3⟩⟩ := h
  exact ⟨v, r, e, ⟨us, e2, ⟨v1, r1, e1, ⟨none, 0, 2, [], h1, by simp, rfl, by intro e vs h; simp at h⟩, h2⟩⟩, ⟨v', r', e', ⟨us', e2', ⟨v1', r1', e1', ⟨none, 0, 2, [], h1', by simp, rfl, by intro e vs h; simp at h⟩, h2'⟩⟩, h3⟩⟩

theorem hbCmpS : hasBody Try.prog 94 = true := hb94
theorem lsS_decI (p q : Sp) : decide (cmS p q < 0) = lsS p q := by rw [Bool.eq_iff_iff, decide_eq_true_eq]; exact cmS_neg
theorem turned_fc (r : List Sp) (hl0 : 1 ≤ r.length) (hl : r.length ≤ 1099511627776) : FC Try.prog 91 [.agg [.isl (r.map Sp.cells)]] (.agg [.isl ((turnR r).map Sp.cells)]) :=
  FC.of_own (z := 2) (es := (turnR r).map Sp.cells) (mk := fun id => .agg [.osl id 0 r.length]) (by simp [idfL, idf, idfLL_iff, Sp.cells]) (by simp [idfL, idf, idfLL_iff, Sp.cells])
    (fun id => by simp only [fz, fzL]; exact congrArg (fun x => AV.agg [x]) (by have := fz_fill (id := id) Sp.cells (turnR r) (turnR_len r).symm; simpa [fz] using this)) fun nx => turned_own r hl0 hl nx
theorem rgs_at {L : List (List Sp)} {i : Nat} (h : i < L.length) : (L.map rgC)[i]? = some [.isl ((gr L i).map Sp.cells)] := by rw [List.getElem?_map, gr_get h]; rfl
theorem plnS1 (l : List Sp) : (∀ c ∈ l.map Sp.cells, c.length = 2 ∧ c.all avOne = true) = True := by
  simp only [eq_iff_iff, iff_true]
  intro c hc
  obtain ⟨p, _, rfl⟩ := List.mem_map.1 hc
  exact ⟨rfl, by simp [Sp.cells, avOne]⟩
theorem plnS (l : List Sp) : ∀ c ∈ l.map Sp.cells, ∀ x ∈ c, pln x := by
  intro c hc x hx
  obtain ⟨p, _, rfl⟩ := List.mem_map.1 hc
  simp only [Sp.cells, List.mem_cons, List.not_mem_nil, or_false] at hx
  rcases hx with rfl | rfl <;> trivial

section
attribute [local simp] Sp.av Sp.cells Sg.av Sg.cells
set_option maxHeartbeats 2000000 in
theorem minSp_fc (l : List Sp) (h0 : 1 ≤ l.length) (hl : l.length ≤ 1099511627776) : FC Try.prog 93 [.isl (l.map Sp.cells), .fn 94 []] (.agg [.int .i64 (gs l (leL l)).x, .int .i64 (gs l (leL l)).y]) := by
 have hat0 := rg_at (r := l) (i := 0) (by omega)
 have hne : ¬ l = [] := by intro h; rw [h] at h0; simp at h0
 refine .b Try.func93 33 (fun nx K hK => ?_) (hi := by simp [idfL, idf, idfLL_iff, Sp.av, Sp.cells, Sg.av, Sg.cells])
 refine .q ?_
 refine .sq fun K2 hK2 => ?_
 refine .q ?_ (by simp (disch := first|omega|(simp only[ln];omega)) [List.length_map]; rfl)
 refine .c (t := decide ((l.length : Int) < 1)) (fun h9 => ?_) (fun h9 => ?_)
 ·simp at h9; omega
 ·try simp only[dc]at h9
  refine .skip ?_
  refine hK2 _ ?_
  refine .q ?_ (by simp (disch := first|omega|(simp only[ln];omega)) [if_pos, hat0, hne, h0, List.length_map]; rfl)
  refine .sq fun K5 hK5 => ?_
  refine .q ?_
  refine .block ?_
  refine .loop (fun N s => ∃ i : Nat, N = l.length - i ∧ 1 ≤ i ∧ i ≤ l.length ∧ s.env 4 = .ptr nx 0 0 ∧ s.env 5 = .ptr (nx + 1) 0 0 ∧ s.env 0 = .isl (l.map Sp.cells) ∧ s.env 1 = .fn 94 [] ∧ s.env 6 = .int .i64 (i : Int) ∧ s.heap (nx + 1) = some (2, [[.int .i64 (mnS l i).x, .int .i64 (mnS l i).y]]) ∧ (nx + 1) < s.nx ∧ s.heap nx = some (2, [[.int .i64 0, .int .i64 0]]) ∧ nx < s.nx ∧ s.nt = 33) (l.length - 1) (by refine ⟨1, by omega, by omega, by omega, ?_, ?_, ?_, ?_, ?_, ?_, ?_, ?_, ?_, rfl⟩ <;> first|(simp (disch := omega) [mnS_one];done)|omega|(simp;done)|(simp;omega)) ?_
  rintro N ⟨e, H, mm, nt⟩ ⟨i, rfl, h1, hi, g4, g5, g0, g1, g6, Hm, xm, Hz, xz, rfl⟩
  simp only [] at g4 g5 g0 g1 g6 Hm xm Hz xz
  refine .sq fun K7 hK7 => ?_
  refine .q ?_ (by simp (disch := first|omega|(simp only[ln];omega)) [g0, g6, List.length_map]; rfl)
  refine .c (fun h17 => ?_) (fun h17 => ?_)
  ·try simp only[dc]at h17
   have hi' : i < l.length := by omega
   have hat := rg_at hi'
   have hst := mnS_step (l := l) h1
   refine .skip ?_
   refine hK7 _ ?_
   refine .sq fun K9 hK9 => ?_
   have J9 : ∀ s : St, (s.env 4 = .ptr nx 0 0 ∧ s.env 5 = .ptr (nx + 1) 0 0 ∧ s.env 0 = .isl (l.map Sp.cells) ∧ s.env 1 = .fn 94 [] ∧ s.env 6 = .int .i64 (i : Int) ∧ s.heap (nx + 1) = some (2, [[.int .i64 (mnS l (i + 1)).x, .int .i64 (mnS l (i + 1)).y]]) ∧ (nx + 1) < s.nx ∧ s.heap nx = some (2, [[.int .i64 0, .int .i64 0]]) ∧ nx < s.nx ∧ s.nt = 33) → K9 s := by
    rintro ⟨e, H, mm, nt⟩ ⟨g4j, g5j, g0j, g1j, g6j, Hmj, xmj, Hzj, xzj, rfl⟩
    simp only [] at g4j g5j g0j g1j g6j Hmj xmj Hzj xzj
    refine hK9 _ ?_
    refine .r ?_ (by simp (disch := first|omega|(simp only[ln];omega)) [g4j, g5j, g0j, g1j, g6j, Hmj, Hzj]; rfl)
    refine ⟨l.length - (i + 1), by omega, i + 1, rfl, by omega, by omega, ?_, ?_, ?_, ?_, ?_, ?_, ?_, ?_, ?_, rfl⟩ <;> first|(simp (disch := omega) [g4j, g5j, g0j, g1j, g6j, Hmj, Hzj];done)|omega|(simp;done)|(simp;omega)
   refine .block ?_
   refine .sq fun K10 hK10 => ?_
   refine .d 8 ?_
   refine .k 6 (fun fs11 hfs11 => ?_) (by simp (disch := first|omega|(simp only[ln];omega)) [runDf.eq_def, runF1, runF2, stepF.eq_def, updo.eq_def, hupo.eq_def, opSto1.eq_def, List.take_succ_cons, List.take_zero, if_pos, g0, g1, g5, g6, Hm, hat, List.length_map]; rfl)
   refine DP.fcall (cmpSpots_fc (gs l i) (mnS l i)) rfl rfl (by simp; rfl) hbCmpS (by simp (disch := first|omega|(simp only[ln];omega)) [idf_Wd', g0, g1, g5, g6, Hm, hat, List.length_map]) (by simp (disch := first|omega|(simp only[ln];omega)) [g0, g1, g5, g6, Hm, hat, List.length_map]) (by simp) ?_
   simp only [updo]
   refine .k 1 (fun fs12 hfs12 => ?_) (by simp (disch := first|omega|(simp only[ln];omega)) [runDf.eq_def, runF1, runF2, stepF.eq_def, updo.eq_def, hupo.eq_def, opSto1.eq_def, List.take_succ_cons, List.take_zero, if_pos, g0, g1, g5, g6, Hm, hat, List.length_map]; rfl)
   refine .r 8 (by simp only[ln, hfs11, hfs12];omega) ?_ (by simp (disch := first|omega|(simp only[ln];omega)) [runDf.eq_def, runF1, runF2, stepF.eq_def, updo.eq_def, hupo.eq_def, opSto1.eq_def, if_pos, g0, g1, g5, g6, Hm, hat, List.length_map]; rfl)
   refine hK10 _ ?_
   refine .c (t := lsS (gs l i) (mnS l i)) (fun h27 => ?_) (fun h27 => ?_) (by simp (disch := first|omega|(simp only[ln];omega)) [lsS_decI])
   ·try simp only[dc]at h27
    rw [if_pos h27] at hst
    refine .r ?_ (by simp (disch := first|omega|(simp only[ln];omega)) [if_pos, g0, g5, g6, Hm, hat, List.length_map]; rfl)
    refine J9 _ ?_
    refine ⟨?_, ?_, ?_, ?_, ?_, ?_, ?_, ?_, ?_, rfl⟩ <;> first|(simp (disch := omega) [g4, g5, g0, g1, g6, Hm, Hz, hst];done)|omega|(simp;done)|(simp;omega)
   ·try simp only[dc]at h27
    rw [if_neg (by rw [h27]; simp)] at hst
    refine .skip ?_
    refine J9 _ ?_
    refine ⟨?_, ?_, ?_, ?_, ?_, ?_, ?_, ?_, ?_, rfl⟩ <;> first|(simp (disch := omega) [g4, g5, g0, g1, g6, Hm, Hz, hst];done)|omega|(simp;done)|(simp;omega)
  ·try simp only[dc]at h17
   have hin : i = l.length := by omega
   subst hin
   refine .exit ?_
   refine hK5 _ ?_
   refine .q ?_ (by simp (disch := first|omega|(simp only[ln];omega)) [g4, g5, Hm, Hz]; rfl)
   refine .ret ?_
   exact hK _ _ _ _ trivial ((Fin.mk (by simp (disch := omega) [aRes, aResL, aRes1, g4, g5, Hm, Hz]; try rfl)).cast (by rw [mnS_end]))
set_option maxHeartbeats 1000000 in
theorem grow_own (n : Nat) (h0 : 0 < n) (hn : n ≤ 1099511627776) (nx : Nat) : ACall Try.prog 148 [.nsl, .int .i64 (n : Int)] (fun _ => none) nx (own1 nx 2 (List.replicate n [.int .i64 0, .int .i64 0]) (fun id => .osl id 0 0)) := by
 have e1 : ((n : Int)).toNat = n := rfl
 have q1 : n * 16 ≤ 281474976710656 := by omega
 have q2 : n * 16 ≤ 140737488355328 := by omega
 have q3 : n ≤ 9223372036854775807 := by omega
 have q4 : (n : Int) ≤ 9223372036854775807 := by omega
 have q5 : ¬ n = 0 := by omega
 refine .b Try.func148 27 fun K hK => ?_
 refine .q ?_
 refine .sq fun K2 hK2 => ?_
 refine .q ?_
 refine .c (t := decide ((n : Int) < 0)) (fun h6 => ?_) (fun h6 => ?_)
 ·simp at h6; omega
 ·try simp only[dc]at h6
  refine .skip ?_
  refine hK2 _ ?_
  refine .sq fun K4 hK4 => ?_
  refine .q ?_
  refine .q ?_
  refine .c (t := decide (0 < (n : Int))) (fun h16 => ?_) (fun h16 => ?_)
  ·try simp only[dc]at h16
   refine .region ?_
   refine .k 5 ?_ (by simp (disch := first|omega|(simp only[ln];omega)) [List.take_succ_cons, List.take_zero, if_pos, e1, q1, q2, q3, q4, q5, h0]; rfl)
   refine AOPS.opapp (by simp (disch := first|omega|(simp only[ln];omega)) [opApp.eq_def, aSrc_isl, aSrc_osl, aSrc_nsl, aSrc_int, wd_app, wd_app2, if_pos, wd_append, wd_take, wd_drop, List.nil_append, e1, q1, q2, q3, q4, q5, h0]; first | rfl | exact ⟨rfl, rfl⟩ | exact ⟨rfl, rfl, rfl⟩) (by simp) (by simp) ?_
   simp only [puts_some, hdrop]
   refine .e ?_ (by simp (disch := first|omega|(simp only[ln];omega)) [if_pos, e1, q1, q2, q3, q4, q5, h0]; rfl)
   refine hK4 _ ?_
   refine .q ?_
   refine .ret ?_
   exact hK _ _ _ _ _ trivial (Fin.own1 (Fin.mk (by simp (disch := omega) [aRes, aResL, aRes1]; try rfl)) (id := nx) (by simp (disch := omega))) (⟨nx, by first | omega | (simp; done) | (simp; omega), by first | omega | (simp; done) | (simp; omega), rfl, rfl⟩)
  ·simp at h16; omega
set_option maxHeartbeats 4000000 in
theorem concat_fo (L : List (List Sp)) (h0 : 0 < lyN L) (hn : lyN L ≤ 1099511627776) (hL : L.length ≤ 1099511627776) : FO Try.prog 95 [rgs L] 2 (L.flatten.map Sp.cells) := by
 refine FO.body Try.func95 rfl (by simp [idfL, idf, idfLL_iff, rgs, rgC, Sp.cells]) (plnS _) 36 rfl fun nx K hK => ?_
 refine .q ?_
 refine .q ?_
 refine .sq fun K3 hK3 => ?_
 refine .q ?_ (by simp (disch := first|omega|(simp only[ln];omega)) [rgs, List.length_map]; rfl)
 refine .block ?_
 
 refine .loop (fun N s => ∃ i : Nat, N = L.length - i ∧ i ≤ L.length ∧ s.env 0 = rgs L ∧ s.env 3 = .int .i64 (lyN (L.take i) : Int) ∧ s.env 10 = .int .i64 (L.length : Int) ∧ s.env 11 = .int .i64 (i : Int) ∧ s.env 9 = rgs L ∧ s.nt = 36) (L.length) (by refine ⟨0, by omega, by omega, ?_, ?_, ?_, ?_, ?_, rfl⟩ <;> first|(simp (disch := omega) [lyN, rgs];done)|omega|(simp;done)|(simp;omega)) ?_
 rintro N ⟨e, H, mm, nt⟩ ⟨i, rfl, hi, g0, g3, g10, g11, g9, rfl⟩
 simp only [] at g0 g3 g10 g11 g9
 refine .q ?_ (by simp (disch := first|omega|(simp only[ln];omega)) [g10, g11]; rfl)
 refine .sq fun K6 hK6 => ?_
 refine .c (fun h12 => ?_) (fun h12 => ?_)
 ·try simp only[dc]at h12
  have hi' : i < L.length := by omega
  have hat := rgs_at hi'
  have hst := lyN_step hi'
  have hb := lyN_le (L := L) (i + 1)
  have hb' := lyN_le (L := L) i
  refine .skip ?_
  refine hK6 _ ?_
  refine .sq fun K7 hK7 => ?_
  refine .block ?_
  refine .q ?_ (by simp (disch := first|omega|(simp only[ln];omega)) [if_pos, g9, g11, hat, rgs, List.length_map]; rfl)
  refine .q ?_ (by simp (disch := first|omega|(simp only[ln];omega)) [g3, hst, List.length_map]; rfl)
  refine .q ?_ (by simp (disch := first|omega|(simp only[ln];omega)) [hst]; rfl)
  refine .c (t := decide ((lyN (L.take (i + 1)) : Int) < 0)) (fun h20 => ?_) (fun h20 => ?_) (by simp (disch := first|omega|(simp only[ln];omega)) [hst, g3])
  ·simp at h20; omega
  ·try simp only[dc]at h20
   refine .skip ?_
   refine hK7 _ ?_
   refine .r ?_ (by simp (disch := first|omega|(simp only[ln];omega)) [g0, g3, g10, g11, g9]; rfl)
   refine ⟨L.length - (i + 1), by omega, i + 1, rfl, by omega, ?_, ?_, ?_, ?_, ?_, rfl⟩ <;> first|(simp (disch := omega) [g0, g3, g10, g11, g9, hst];done)|omega|(simp;done)|(simp;omega)
 ·try simp only[dc]at h12
  have hin : i = L.length := by omega
  subst hin
  rw [List.take_length] at g3
  refine .exit ?_
  refine hK3 _ ?_
  refine .sq fun K11 hK11 => ?_
  refine .region ?_
  refine .k 1 ?_ (by simp (disch := first|omega|(simp only[ln];omega)) [List.take_succ_cons, List.take_zero, g3]; rfl)
  refine AOPS.ocallL 4 (grow_own (lyN L) h0 hn _) rfl rfl rfl hb148 (by simp (disch := first|omega|(simp only[ln];omega)) [lv, idf_Wd', g3]) (⟨fun _ h => by simp [nwr, nwrL]; try exact h, by simp [nwr, nwrL, Sp.cells, Sg.cells]⟩) (by simp (disch := first|omega|(simp only[ln];omega)) [g3]) (by simp) ?_
  intro id nx2 hi1 hi2
  simp only [] at hi1 hi2
  simp only [puts_some, updo]
  refine .e ?_ (by simp (disch := first|omega|(simp only[ln];omega)) [g3]; rfl)
  refine hK11 _ ?_
  refine .sq fun K12 hK12 => ?_
  refine .q ?_ (by simp (disch := first|omega|(simp only[ln];omega)) [g0, rgs, List.length_map]; rfl)
  refine .block ?_
  
  refine .loop (fun N s => ∃ i : Nat, ∃ id : Nat, ∃ E : List (List AV), N = L.length - i ∧ i ≤ L.length ∧ (E.take (lyN (L.take i)) = (L.take i).flatten.map Sp.cells) ∧ (0 < i → E = (L.take i).flatten.map Sp.cells) ∧ (lyN (L.take i) ≤ E.length) ∧ s.env 25 = rgs L ∧ s.env 26 = .int .i64 (L.length : Int) ∧ s.env 27 = .int .i64 (i : Int) ∧ s.env 6 = .osl id 0 (lyN (L.take i)) ∧ s.heap id = some (2, E) ∧ id < s.nx ∧ s.nt = 36) (L.length) (by refine ⟨0, id, List.replicate (lyN L) [.int .i64 0, .int .i64 0], by omega, by omega, by simp [lyN], fun h => by omega, by simp [lyN], ?_, ?_, ?_, ?_, ?_, ?_, rfl⟩ <;> first|(simp (disch := omega) [lyN, rgs];done)|omega|(simp;done)|(simp;omega)|(simp (disch := omega) [lyN, rgs] <;> omega)) ?_
  rintro N ⟨e, H, mm, nt⟩ ⟨i, id, E, rfl, hi, hE, hE2, hEl, g25, g26, g27, g6, Ho, xo, rfl⟩
  simp only [] at g25 g26 g27 g6 Ho xo
  refine .q ?_ (by simp (disch := first|omega|(simp only[ln];omega)) [g26, g27]; rfl)
  refine .sq fun K15 hK15 => ?_
  refine .c (fun h28 => ?_) (fun h28 => ?_)
  ·try simp only[dc]at h28
   have hi' : i < L.length := by omega
   have hat := rgs_at hi'
   have hst := lyN_step hi'
   have hb := lyN_le (L := L) (i + 1)
   have hEn : E.take (lyN (L.take i)) ++ (gr L i).map Sp.cells = (L.take (i + 1)).flatten.map Sp.cells := by rw [hE, flat_step hi', List.map_append]
   have hEm : ((L.take (i + 1)).flatten.map Sp.cells).length = lyN (L.take (i + 1)) := by rw [List.length_map, flatS_len]
   have hc1 : (lyN (L.take i) + (gr L i).length) * 16 ≤ 140737488355328 := by omega
   have hc2 : lyN (L.take i) + (gr L i).length ≤ 9223372036854775807 := by omega
   refine .skip ?_
   refine hK15 _ ?_
   refine .sq fun K16 hK16 => ?_
   refine .block ?_
   refine .q ?_ (by simp (disch := first|omega|(simp only[ln];omega)) [if_pos, g25, g27, hat, rgs, List.length_map]; rfl)
   refine .region ?_
   refine .k 2 ?_ (by simp (disch := first|omega|(simp only[ln];omega)) [List.take_succ_cons, List.take_zero, g6]; rfl)
   refine AOPS.opapp (by simp (disch := first|omega|(simp only[ln];omega)) [opApp.eq_def, aSrc_isl, aSrc_osl, aSrc_nsl, aSrc_int, wd_app, wd_app2, if_pos, wd_append, wd_take, wd_drop, List.nil_append, g6, Ho, hEl, hc1, hc2, plnS1, List.length_map, src_Wd' (P := Try.prog) elT41]; first | rfl | exact ⟨rfl, rfl⟩ | exact ⟨rfl, rfl, rfl⟩) (by simp) (by simp) ?_
   simp only [puts_some, hdrop]
   refine .e ?_ (by simp (disch := first|omega|(simp only[ln];omega)) [g6]; rfl)
   refine hK16 _ ?_
   refine .r ?_ (by simp (disch := first|omega|(simp only[ln];omega)) [g27]; rfl)
   refine ⟨L.length - (i + 1), by omega, i + 1, mm, (L.take (i + 1)).flatten.map Sp.cells, rfl, by omega, by rw [← hEm, List.take_length], fun _ => rfl, by rw [hEm]; exact Nat.le_refl _, ?_, ?_, ?_, ?_, ?_, ?_, rfl⟩ <;> first|(simp (disch := omega) [g25, g26, g27, g6, Ho, hEn, hEm, hst];done)|omega|(simp;done)|(simp;omega)|(simp (disch := omega) [g25, g26, g27, g6, Ho, hEn, hEm, hst] <;> omega)
  ·try simp only[dc]at h28
   have hin : i = L.length := by omega
   subst hin
   have hLp : 0 < L.length := by
     rcases Nat.eq_zero_or_pos L.length with h | h
     · rw [List.length_eq_zero_iff.1 h] at h0; simp [lyN] at h0
     · exact h
   have hE3 := hE2 hLp
   rw [List.take_length] at hE3 g6
   rw [hE3] at Ho
   rw [← flatS_len, ← List.length_map (f := Sp.cells)] at g6
   refine .exit ?_
   refine hK12 _ ?_
   refine .q ?_ (by simp (disch := first|omega|(simp only[ln];omega)) [g6]; rfl)
   refine .ret ?_
   exact hK _ _ (id) _ _ trivial (((Fin.mk (r := .osl id 0 (L.flatten.map Sp.cells).length) (by simp [aRes, aResL, aRes1]))).cast (rfl)) (by simp [Ho])
end

end Go.Proofs.Ytdcajfgeleopiaa

/- Walks: FnExactRingForm, walked. -/
namespace Go.Proofs.Ytdcajfgeleopiaa
open Go Go.RowKit
set_option linter.unusedSimpArgs false
set_option linter.unusedVariables false
set_option maxRecDepth 100000
attribute [local simp] szT2 byT2 agT2 unT2 zoT2 szT3 byT3 agT3 unT3 zoT3 szT35 byT35 agT35 elT35 unT35 zoT35 szT37 byT37 agT37 flT37 fdT37_0 zoT37 szT41 byT41 agT41 elT41 unT41 zoT41 szT43 byT43 agT43 flT43 fdT43_0 zoT43 szT102 byT102 agT102 flT102 fdT102_0 fdT102_1 zoT102 szT175 byT175 agT175 elT175 unT175 zoT175

theorem szS (l : List Sp) : (∀ c ∈ l.map Sp.cells, c.length = 2) = True := by
  simp only [eq_iff_iff, iff_true]
  intro c hc
  obtain ⟨p, _, rfl⟩ := List.mem_map.1 hc
  rfl
theorem szS' (l : List Sp) : (∀ a ∈ l, (Sp.cells a).length = 2) = True := by
  simp only [eq_iff_iff, iff_true]
  intro c _; rfl

section
attribute [local simp] Sp.av Sp.cells Sg.av Sg.cells
set_option maxHeartbeats 4000000 in
theorem ringForm_own (r : List Sp) (hl : r.length ≤ 1099511627776) (hz : rgF r = 0) (nx : Nat) : ACall Try.prog 42 [.agg [.isl (r.map Sp.cells)]] (fun _ => none) nx (own1 nx 2 ((fmR r).map Sp.cells) (fun id => .agg [.osl id 0 r.length])) := by
 obtain ⟨z1, z2, z3, z4, _⟩ := rgF_zero hz
 have hd : decide (rgF r = 0) = true := decide_eq_true hz
 refine .b Try.func42 30 fun K hK => ?_
 refine .q ?_
 refine .sq fun K2 hK2 => ?_
 refine .sq fun K3 hK3 => ?_
 refine .region ?_
 refine .kf 1 (isRing_fc r hl) hb68 ?_ (by simp (disch := first|omega|(simp only[ln];omega)) [List.take_succ_cons, List.take_zero, hd]; rfl) (ha := by simp (disch := first|omega|(simp only[ln];omega)) [idf_Wd', hd])
 refine .e ?_ (by simp (disch := first|omega|(simp only[ln];omega)) [hd]; rfl)
 refine hK3 _ ?_
 refine .c (fun h6 => ?_) (fun h6 => ?_)
 ·simp at h6
 ·try simp only[dc]at h6
  refine .skip ?_
  refine hK2 _ ?_
  refine .sq fun K4 hK4 => ?_
  have J4 : ∀ s : St, (s.env 1 = .ptr nx 0 0 ∧ s.env 2 = .ptr (nx + 1) 0 0 ∧ s.heap nx = some (1, [[.isl ((fmB r).map Sp.cells)]]) ∧ nx < s.nx ∧ s.heap (nx + 1) = some (1, [[.nsl]]) ∧ (nx + 1) < s.nx ∧ s.nt = 30) → K4 s := by
   rintro ⟨e, H, mm, nt⟩ ⟨g1, g2, Hr, xr, Hz, xz, rfl⟩
   simp only [] at g1 g2 Hr xr Hz xz
   obtain ⟨l, hlB⟩ : ∃ l, fmB r = l := ⟨_, rfl⟩
   have hlen : l.length = r.length := by rw [← hlB, fmB_len]
   have hfm : fmR r = rotR l (leL l) := by unfold fmR; rw [hlB]
   rw [hlB] at Hr
   have l1 : 1 ≤ l.length := by omega
   have l2 : l.length ≤ 1099511627776 := by omega
   have mn := minSp_fc l l1 l2
   have ix := indexSp_fc l (gs l (leL l)) (by omega)
   rw [ixI_le l1] at ix
   have kl := leL_lt l1
   obtain ⟨k, hk⟩ : ∃ k, leL l = k := ⟨_, rfl⟩
   rw [hk] at mn ix kl hfm
   have cc := concat_fo [l.drop k, l.take k] (by simp only [lyN, List.length_drop, List.length_take]; omega) (by simp only [lyN, List.length_drop, List.length_take]; omega) (by simp)
   have hes : [l.drop k, l.take k].flatten.map Sp.cells = (fmR r).map Sp.cells := by rw [hfm]; unfold rotR; simp
   have hel : ((fmR r).map Sp.cells).length = r.length := by rw [List.length_map, fmR_len]
   rw [hes] at cc
   simp only [rgs, rgC, List.map_cons, List.map_nil, List.map_drop, List.map_take] at cc
   have zs := szS l
   have tk0 : List.take l.length (List.map Sp.cells l) = List.map Sp.cells l := List.take_of_length_le (by rw [List.length_map]; omega)
   have zs' := szS' l
   refine hK4 _ ?_
   refine .sq fun K5 hK5 => ?_
   refine .d 6 ?_
   refine .k 4 (fun fs6 hfs6 => ?_) (by simp (disch := first|omega|(simp only[ln];omega)) [runDf.eq_def, runF1, runF2, stepF.eq_def, updo.eq_def, hupo.eq_def, opSto1.eq_def, List.take_succ_cons, List.take_zero, g1, Hr, List.length_map]; rfl)
   refine .f mn hb93 ?_ (ha := by simp (disch := first|omega|(simp only[ln];omega)) [idf_Wd', g1, Hr, List.length_map])
   refine .f ix hb92 ?_ (ha := by simp (disch := first|omega|(simp only[ln];omega)) [idf_Wd', g1, Hr, List.length_map])
   refine .r 6 (by simp only[ln, hfs6];omega) ?_ (by simp (disch := first|omega|(simp only[ln];omega)) [runDf.eq_def, runF1, runF2, stepF.eq_def, updo.eq_def, hupo.eq_def, opSto1.eq_def, g1, Hr, List.length_map]; rfl)
   refine hK5 _ ?_
   refine .sq fun K7 hK7 => ?_
   refine .d 11 ?_
   refine .k 9 (fun fs8 hfs8 => ?_) (by simp (disch := first|omega|(simp only[ln];omega)) [runDf.eq_def, runF1, runF2, stepF.eq_def, updo.eq_def, hupo.eq_def, opSto1.eq_def, List.take_succ_cons, List.take_zero, if_pos, g1, g2, Hr, Hz, kl, zs, zs', tk0, Nat.le_of_lt kl, List.length_map]; rfl)
   refine DP.ocall (cc) rfl rfl rfl hb95 (by simp (disch := first|omega|(simp only[ln];omega)) [idf_Wd', g1, g2, Hr, Hz, kl, zs, zs', tk0, Nat.le_of_lt kl, List.length_map]) (by simp (disch := first|omega|(simp only[ln];omega)) [g1, g2, Hr, Hz, kl, zs, zs', tk0, Nat.le_of_lt kl, List.length_map]) (by simp) ?_
   simp only [updo]
   refine .k 1 (fun fs9 hfs9 => ?_) (by simp (disch := first|omega|(simp only[ln];omega)) [runDf.eq_def, runF1, runF2, stepF.eq_def, updo.eq_def, hupo.eq_def, opSto1.eq_def, List.take_succ_cons, List.take_zero, if_pos, g1, g2, Hr, Hz, kl, zs, zs', tk0, Nat.le_of_lt kl, List.length_map]; rfl)
   refine .r 11 (by simp only[ln, hfs8, hfs9];omega) ?_ (by simp (disch := first|omega|(simp only[ln];omega)) [runDf.eq_def, runF1, runF2, stepF.eq_def, updo.eq_def, hupo.eq_def, opSto1.eq_def, if_pos, g1, g2, Hr, Hz, kl, zs, zs', tk0, Nat.le_of_lt kl, List.length_map]; rfl)
   refine hK7 _ ?_
   refine .ret ?_
   exact hK _ _ _ _ _ trivial (Fin.own1 (Fin.mk (by simp (disch := omega) [aRes, aResL, aRes1, g2, fmR_len]; try rfl)) (id := (mm + 7 + 9)) (by simp (disch := omega) [Hz])) (⟨(mm + 7 + 9), by first | omega | (simp; done) | (simp; omega), by first | omega | (simp; done) | (simp; omega), rfl, rfl⟩)
  refine .sq fun K10 hK10 => ?_
  refine .region ?_
  refine .kf 1 (area2I_fc r z3 z2) hb90 ?_
  refine .e ?_
  refine hK10 _ ?_
  refine .c (t := decide (area r < 0)) (fun h10 => ?_) (fun h10 => ?_)
  ·try simp only[dc]at h10
   refine .region ?_
   refine .kf 1 (turned_fc r (by omega) hl) hb91 ?_
   refine .e ?_
   refine J4 _ ?_
   refine ⟨?_, ?_, ?_, ?_, ?_, ?_, rfl⟩ <;> first|(simp (disch := omega) [fmB, h10];done)|(unfold fmB;rw [if_pos h10];simp (disch := omega);done)|(unfold fmB;rw [if_neg h10];simp (disch := omega);done)|omega|(simp;done)|(simp;omega)
  ·try simp only[dc]at h10
   refine .skip ?_
   refine J4 _ ?_
   refine ⟨?_, ?_, ?_, ?_, ?_, ?_, rfl⟩ <;> first|(simp (disch := omega) [fmB, h10];done)|(unfold fmB;rw [if_pos h10];simp (disch := omega);done)|(unfold fmB;rw [if_neg h10];simp (disch := omega);done)|omega|(simp;done)|(simp;omega)
theorem ringForm_no (r : List Sp) (hl : r.length ≤ 1099511627776) (hz : ¬ rgF r = 0) : FC Try.prog 42 [.agg [.isl (r.map Sp.cells)]] (.agg [.nsl]) := by
 have hd : decide (rgF r = 0) = false := decide_eq_false hz
 refine .b Try.func42 30 (fun nx K hK => ?_) (hi := by simp [idfL, idf, idfLL_iff, Sp.av, Sp.cells, Sg.av, Sg.cells])
 refine .q ?_
 refine .sq fun K2 hK2 => ?_
 refine .sq fun K3 hK3 => ?_
 refine .region ?_
 refine .kf 1 (isRing_fc r hl) hb68 ?_ (by simp (disch := first|omega|(simp only[ln];omega)) [List.take_succ_cons, List.take_zero, hd]; rfl) (ha := by simp (disch := first|omega|(simp only[ln];omega)) [idf_Wd', hd])
 refine .e ?_ (by simp (disch := first|omega|(simp only[ln];omega)) [hd]; rfl)
 refine hK3 _ ?_
 refine .c (fun h6 => ?_) (fun h6 => ?_)
 ·try simp only[dc]at h6
  refine .q ?_
  refine .ret ?_
  exact hK _ _ _ _ trivial ((Fin.mk (by simp (disch := omega) [aRes, aResL, aRes1]; try rfl)))
 ·simp at h6
theorem ringFormS_no (r : List Sp) (hl : r.length ≤ 1099511627776) (hz : ¬ rgF r = 0) : FC Try.prog 45 [.agg [.isl (r.map Sp.cells)]] (.agg [.nsl]) := by
 have hd : decide (rgF r = 0) = false := decide_eq_false hz
 refine .b Try.func45 59 (fun nx K hK => ?_) (hi := by simp [idfL, idf, idfLL_iff, Sp.av, Sp.cells, Sg.av, Sg.cells])
 refine .q ?_
 refine .sq fun K2 hK2 => ?_
 refine .sq fun K3 hK3 => ?_
 refine .region ?_
 refine .kf 1 (l5Ok_fc r hl) hb65 ?_ (by simp (disch := first|omega|(simp only[ln];omega)) [List.take_succ_cons, List.take_zero, hd]; rfl) (ha := by simp (disch := first|omega|(simp only[ln];omega)) [idf_Wd', hd])
 refine .e ?_ (by simp (disch := first|omega|(simp only[ln];omega)) [hd]; rfl)
 refine hK3 _ ?_
 refine .c (fun h9 => ?_) (fun h9 => ?_)
 ·try simp only[dc]at h9
  refine .q ?_
  refine .ret ?_
  exact hK _ _ _ _ trivial ((Fin.mk (by simp (disch := omega) [aRes, aResL, aRes1]; try rfl)))
 ·simp at h9
set_option maxHeartbeats 4000000 in
theorem ringFormS_fc (r : List Sp) (hl : r.length ≤ 1099511627776) (hz : rgF r = 0) : FC Try.prog 45 [.agg [.isl (r.map Sp.cells)]] (.agg [.isl ((fmR r).map Sp.cells)]) := by
 obtain ⟨z1, z2, z3, z4, _⟩ := rgF_zero hz
 have hd : decide (rgF r = 0) = true := decide_eq_true hz
 refine .b Try.func45 59 (fun nx K hK => ?_) (hi := by simp [idfL, idf, idfLL_iff, Sp.av, Sp.cells, Sg.av, Sg.cells]) (hr := by simp [idfL, idf, idfLL_iff, Sp.av, Sp.cells, Sg.av, Sg.cells])
 refine .q ?_
 refine .sq fun K2 hK2 => ?_
 refine .sq fun K3 hK3 => ?_
 refine .region ?_
 refine .kf 1 (l5Ok_fc r hl) hb65 ?_ (by simp (disch := first|omega|(simp only[ln];omega)) [List.take_succ_cons, List.take_zero, hd]; rfl) (ha := by simp (disch := first|omega|(simp only[ln];omega)) [idf_Wd', hd])
 refine .e ?_ (by simp (disch := first|omega|(simp only[ln];omega)) [hd]; rfl)
 refine hK3 _ ?_
 refine .c (fun h9 => ?_) (fun h9 => ?_)
 ·simp at h9
 ·try simp only[dc]at h9
  refine .skip ?_
  refine hK2 _ ?_
  refine .sq fun K4 hK4 => ?_
  have J4 : ∀ s : St, (s.env 1 = .ptr nx 0 0 ∧ s.env 2 = .ptr (nx + 1) 0 0 ∧ s.heap nx = some (1, [[.isl ((fmB r).map Sp.cells)]]) ∧ nx < s.nx ∧ s.heap (nx + 1) = some (1, [[.nsl]]) ∧ (nx + 1) < s.nx ∧ s.nt = 59) → K4 s := by
   rintro ⟨e, H, mm, nt⟩ ⟨g1, g2, Hr, xr, Hz, xz, rfl⟩
   simp only [] at g1 g2 Hr xr Hz xz
   obtain ⟨l, hlB⟩ : ∃ l, fmB r = l := ⟨_, rfl⟩
   have hlen : l.length = r.length := by rw [← hlB, fmB_len]
   have hfm : fmR r = rotR l (leL l) := by unfold fmR; rw [hlB]
   rw [hlB] at Hr
   have l1 : 1 ≤ l.length := by omega
   have l2 : l.length ≤ 1099511627776 := by omega
   have kl := leL_lt l1
   refine hK4 _ ?_
   refine .q ?_
   refine .sq fun K6 hK6 => ?_
   refine .q ?_
   refine .block ?_
   refine .loop (fun N s => ∃ k : Nat, N = l.length - k ∧ k + 1 ≤ l.length ∧ s.env 1 = .ptr nx 0 0 ∧ s.env 2 = .ptr (nx + 1) 0 0 ∧ s.env 3 = .int .i64 (leI l k : Int) ∧ s.env 4 = .int .i64 ((k : Int) + 1) ∧ s.heap nx = some (1, [[.isl (l.map Sp.cells)]]) ∧ nx < s.nx ∧ s.heap (nx + 1) = some (1, [[.nsl]]) ∧ (nx + 1) < s.nx ∧ s.nt = 59) (l.length) (by refine ⟨0, by omega, by omega, ?_, ?_, ?_, ?_, ?_, ?_, ?_, ?_, rfl⟩ <;> first|(simp (disch := omega) [g1, g2, Hr, Hz, leI];done)|omega|(simp;done)|(simp;omega)|(simp (disch := omega) [g1, g2, Hr, Hz, leI] <;> omega)) ?_
   clear g1 g2 Hr Hz xr xz
   rintro N ⟨e, H, mm, nt⟩ ⟨k, rfl, hk, g1, g2, g3, g4, Hr, xr, Hz, xz, rfl⟩
   simp only [] at g1 g2 g3 g4 Hr xr Hz xz
   refine .sq fun K8 hK8 => ?_
   refine .q ?_ (by simp (disch := first|omega|(simp only[ln];omega)) [g1, g4, Hr, List.length_map]; rfl)
   refine .c (fun h20 => ?_) (fun h20 => ?_)
   ·try simp only[dc]at h20
    have hk' : k + 1 < l.length := by omega
    have hat := rg_at hk'
    have hle := leI_le l k
    have hat2 := rg_at (r := l) (i := leI l k) (by omega)
    have hkI : ((k : Int) + 1).toNat = k + 1 := by omega
    have hll : leI l k < l.length := by omega
    have hst : leI l (k + 1) = if lsS (gs l (k + 1)) (gs l (leI l k)) = true then k + 1 else leI l k := rfl
    have cl := l4Less_fc (gs l (k + 1)) (gs l (leI l k))
    have k0 : (0 : Int) ≤ (k : Int) + 1 := by omega
    refine .skip ?_
    refine hK8 _ ?_
    refine .sq fun K10 hK10 => ?_
    have J10 : ∀ s : St, (s.env 1 = .ptr nx 0 0 ∧ s.env 2 = .ptr (nx + 1) 0 0 ∧ s.env 3 = .int .i64 (leI l (k + 1) : Int) ∧ s.env 4 = .int .i64 ((k : Int) + 1) ∧ s.heap nx = some (1, [[.isl (l.map Sp.cells)]]) ∧ nx < s.nx ∧ s.heap (nx + 1) = some (1, [[.nsl]]) ∧ (nx + 1) < s.nx ∧ s.nt = 59) → K10 s := by
     rintro ⟨e, H, mm, nt⟩ ⟨g1j, g2j, g3j, g4j, Hrj, xrj, Hzj, xzj, rfl⟩
     simp only [] at g1j g2j g3j g4j Hrj xrj Hzj xzj
     refine hK10 _ ?_
     refine .r ?_ (by simp (disch := first|omega|(simp only[ln];omega)) [g1j, g2j, g3j, g4j, Hrj, Hzj]; rfl)
     refine ⟨l.length - (k + 1), by omega, k + 1, rfl, by omega, ?_, ?_, ?_, ?_, ?_, ?_, ?_, ?_, rfl⟩ <;> first|(simp (disch := omega) [g1j, g2j, g3j, g4j, Hrj, Hzj];done)|omega|(simp;done)|(simp;omega)|(simp (disch := omega) [g1j, g2j, g3j, g4j, Hrj, Hzj] <;> omega)
    refine .block ?_
    refine .sq fun K11 hK11 => ?_
    refine .d 11 ?_
    refine .k 10 (fun fs12 hfs12 => ?_) (by simp (disch := first|omega|(simp only[ln];omega)) [runDf.eq_def, runF1, runF2, stepF.eq_def, updo.eq_def, hupo.eq_def, opSto1.eq_def, List.take_succ_cons, List.take_zero, if_pos, g1, g3, g4, Hr, hat, hat2, hkI, hk', hll, k0, List.length_map]; rfl)
    refine .f cl hb100 ?_ (ha := by simp (disch := first|omega|(simp only[ln];omega)) [idf_Wd', if_pos, g1, g3, g4, Hr, hat, hat2, hkI, hk', hll, k0, List.length_map])
    refine .r 11 (by simp only[ln, hfs12];omega) ?_ (by simp (disch := first|omega|(simp only[ln];omega)) [runDf.eq_def, runF1, runF2, stepF.eq_def, updo.eq_def, hupo.eq_def, opSto1.eq_def, if_pos, g1, g3, g4, Hr, hat, hat2, hkI, hk', hll, k0, List.length_map]; rfl)
    refine hK11 _ ?_
    refine .c (t := lsS (gs l (k + 1)) (gs l (leI l k))) (fun h33 => ?_) (fun h33 => ?_)
    ·try simp only[dc]at h33
     rw [if_pos h33] at hst
     refine .r ?_ (by simp (disch := first|omega|(simp only[ln];omega)) [g4]; rfl)
     refine J10 _ ?_
     refine ⟨?_, ?_, ?_, ?_, ?_, ?_, ?_, ?_, rfl⟩ <;> first|(simp (disch := omega) [g1, g2, g3, g4, Hr, Hz, hst];done)|omega|(simp;done)|(simp;omega)
    ·try simp only[dc]at h33
     rw [if_neg (by rw [h33]; simp)] at hst
     refine .skip ?_
     refine J10 _ ?_
     refine ⟨?_, ?_, ?_, ?_, ?_, ?_, ?_, ?_, rfl⟩ <;> first|(simp (disch := omega) [g1, g2, g3, g4, Hr, Hz, hst];done)|omega|(simp;done)|(simp;omega)
   ·try simp only[dc]at h20
    have hin : k = l.length - 1 := by omega
    have g3' : e 3 = .int .i64 (leL l : Int) := by rw [g3, hin]; rfl
    clear g3
    refine .exit ?_
    refine hK6 _ ?_
    refine .q ?_
    refine .sq fun K14 hK14 => ?_
    refine .q ?_
    refine .block ?_
    
    refine .loop (fun N s => ∃ i : Nat, ∃ id : Nat, N = l.length - i ∧ i ≤ l.length ∧ (nx + 1 < id) ∧ s.env 1 = .ptr nx 0 0 ∧ s.env 2 = .ptr (nx + 1) 0 0 ∧ s.env 3 = .int .i64 (leL l : Int) ∧ s.env 5 = .osl id 0 i ∧ s.env 6 = .int .i64 (i : Int) ∧ s.heap nx = some (1, [[.isl (l.map Sp.cells)]]) ∧ nx < s.nx ∧ s.heap (nx + 1) = some (1, [[.nsl]]) ∧ (nx + 1) < s.nx ∧ s.heap id = some (2, (rotS l (leL l) i).map Sp.cells) ∧ id < s.nx ∧ s.nt = 59) (l.length) (by refine ⟨0, mm, by omega, by omega, by omega, ?_, ?_, ?_, ?_, ?_, ?_, ?_, ?_, ?_, ?_, ?_, rfl⟩ <;> first|(simp (disch := omega) [g1, g2, g3', Hr, Hz, rotS];done)|omega|(simp;done)|(simp;omega)) ?_
    rintro N ⟨e, H, mm, nt⟩ ⟨i, id, rfl, hi, hid, g1, g2, g3, g5, g6, Hr, xr, Hz, xz, Ho, xo, rfl⟩
    simp only [] at g1 g2 g3 g5 g6 Hr xr Hz xz Ho xo
    refine .sq fun K16 hK16 => ?_
    refine .q ?_ (by simp (disch := first|omega|(simp only[ln];omega)) [g1, g6, Hr, List.length_map]; rfl)
    refine .c (fun h40 => ?_) (fun h40 => ?_)
    ·try simp only[dc]at h40
     have hi' : i < l.length := by omega
     obtain ⟨j, hj⟩ : ∃ j : Nat, j = (leL l + i) % l.length := ⟨_, rfl⟩
     have hjl : j < l.length := by rw [hj]; exact Nat.mod_lt _ (by omega)
     have htm : Int.tmod ((leL l : Int) + (i : Int)) (l.length : Int) = (j : Int) := by rw [hj]; exact (Int.ofNat_tmod (leL l + i) l.length).symm
     have hat := rg_at hjl
     have hne : ¬ l = [] := by intro h; rw [h] at hi'; simp at hi'
     have hst : (rotS l (leL l) (i + 1)).map Sp.cells = (rotS l (leL l) i).map Sp.cells ++ [[.int .i64 (gs l j).x, .int .i64 (gs l j).y]] := by rw [rotS_step, List.map_append, hj]; rfl
     have hrl := rotS_len l (leL l) i
     have htk : List.take i (List.map Sp.cells (rotS l (leL l) i)) = List.map Sp.cells (rotS l (leL l) i) := List.take_of_length_le (by rw [List.length_map, hrl]; omega)
     have hc1 : (i + 1) * 16 ≤ 140737488355328 := by omega
     have hc2 : i ≤ 9223372036854775806 := by omega
     refine .skip ?_
     refine hK16 _ ?_
     refine .sq fun K18 hK18 => ?_
     refine .block ?_
     refine AWP.drawT 13 Try.checked.mixed (by kernel_rfl) (by kernel_rfl) ?_
     simp only [List.take_succ_cons, List.take_zero, List.drop_succ_cons, List.drop_zero]
     refine .k 13 (fun fs19 hfs19 => ?_) (by simp (disch := first|omega|(simp only[ln];omega)) [runDf.eq_def, runF1, runF2, stepF.eq_def, updo.eq_def, hupo.eq_def, opSto1.eq_def, List.take_succ_cons, List.take_zero, if_pos, g1, g3, g5, g6, Hr, Ho, htm, hat, hne, hjl, hrl, htk, hc1, hc2, List.length_map]; rfl)
     simp only [DP]
     refine AOPS.opapp (by simp (disch := first|omega|(simp only[ln];omega)) [opApp.eq_def, aSrc_isl, aSrc_osl, aSrc_nsl, aSrc_int, wd_app, wd_app2, if_pos, wd_append, wd_take, wd_drop, List.nil_append, g1, g3, g5, g6, Hr, Ho, htm, hat, hne, hjl, hrl, htk, hc1, hc2, List.length_map, src_Wd' (P := Try.prog) elT41]; first | rfl | exact ⟨rfl, rfl⟩ | exact ⟨rfl, rfl, rfl⟩) (by simp) (by simp) ?_
     simp only [puts_some, hdrop]
     refine .e ?_ (by simp (disch := first|omega|(simp only[ln];omega)) [if_pos, g1, g3, g5, g6, Hr, Ho, htm, hat, hne, hjl, hrl, htk, hc1, hc2, List.length_map]; rfl)
     refine hK18 _ ?_
     refine .r ?_ (by simp (disch := first|omega|(simp only[ln];omega)) [g6]; rfl)
     refine ⟨l.length - (i + 1), by omega, i + 1, (mm + 13), rfl, by omega, by omega, ?_, ?_, ?_, ?_, ?_, ?_, ?_, ?_, ?_, ?_, ?_, rfl⟩ <;> first|(simp (disch := omega) [g1, g2, g3, g5, g6, Hr, Hz, Ho, hst, rotS_len];done)|omega|(simp;done)|(simp;omega)
    ·try simp only[dc]at h40
     have hin : i = l.length := by omega
     rw [hin, rotS_end (Nat.le_of_lt kl), ← hfm] at Ho
     rw [hin, hlen] at g5
     refine .exit ?_
     refine hK14 _ ?_
     refine .q ?_ (by simp (disch := first|omega|(simp only[ln];omega)) [g2, g5, Hz]; rfl)
     refine .ret ?_
     exact hK _ _ _ _ trivial (((Fin.mk (r := .agg [.osl id 0 r.length]) (by simp (disch := omega) [aRes, aResL, aRes1, g2]; try rfl)).freeze (id := id) (z := 2) (es := (fmR r).map Sp.cells) (by simp (disch := omega) [Ho])).cast (by simp only [fz, fzL]; exact congrArg (fun x => AV.agg [x]) (by have := fz_fill (id := id) Sp.cells (fmR r) (fmR_len r).symm; simpa [fz] using this)))
  refine .sq fun K21 hK21 => ?_
  refine .region ?_
  refine .kf 1 (area2S_fc r z3 z2) hb98 ?_
  refine .e ?_
  refine hK21 _ ?_
  refine .c (t := decide (area r < 0)) (fun h13 => ?_) (fun h13 => ?_)
  ·try simp only[dc]at h13
   refine .region ?_
   refine .kf 1 (ringTurnedS_fc r hl hz) hb99 ?_
   refine .e ?_
   refine J4 _ ?_
   refine ⟨?_, ?_, ?_, ?_, ?_, ?_, rfl⟩ <;> first|(simp (disch := omega) [fmB, h13];done)|(unfold fmB;rw [if_pos h13];simp (disch := omega);done)|(unfold fmB;rw [if_neg h13];simp (disch := omega);done)|omega|(simp;done)|(simp;omega)
  ·try simp only[dc]at h13
   refine .skip ?_
   refine J4 _ ?_
   refine ⟨?_, ?_, ?_, ?_, ?_, ?_, rfl⟩ <;> first|(simp (disch := omega) [fmB, h13];done)|(unfold fmB;rw [if_pos h13];simp (disch := omega);done)|(unfold fmB;rw [if_neg h13];simp (disch := omega);done)|omega|(simp;done)|(simp;omega)
set_option maxHeartbeats 4000000 in
theorem fnExactRingForm_yes (r : List Sp) (hl : r.length ≤ 9223372036854775807) (hz : rgF r = 0) : FC Try.prog 9 [.agg [.isl (r.map Sp.cells)]] (.bool true) := by
 refine .b Try.func9 69 (fun nx K hK => ?_) (hi := by simp [idfL, idf, idfLL_iff, Sp.av, Sp.cells, Sg.av, Sg.cells])
 refine .q ?_
 refine .q ?_
 refine .sq fun K3 hK3 => ?_
 refine .region ?_
 refine .kf 2 (szRing_fc r 1048576 (by omega) (by omega) hl) hb17 ?_
 refine .e ?_
 refine hK3 _ ?_
 refine .sq fun K4 hK4 => ?_
 refine .q ?_
 refine .c (t := decide (szN r.length 1048576 < 0)) (fun h15 => ?_) (fun h15 => ?_)
 ·try simp only[dc]at h15
  refine .q ?_
  refine .ret ?_
  exact hK _ _ _ _ trivial ((Fin.m))
 ·try simp only[dc]at h15
  obtain ⟨k1, _⟩ := szN_le h15
  have k2 : r.length ≤ 1048576 := by omega
  have k3 : r.length ≤ 1099511627776 := by omega
  obtain ⟨n, hrl⟩ : ∃ n, r.length = n := ⟨_, rfl⟩
  have htl : (fmR r).length = n := by rw [fmR_len]; exact hrl
  have tkR : List.take n (List.map Sp.cells r) = List.map Sp.cells r := List.take_of_length_le (by rw [List.length_map]; omega)
  have tkT : List.take n (List.map Sp.cells (fmR r)) = List.map Sp.cells (fmR r) := List.take_of_length_le (by rw [List.length_map]; omega)
  have own0 := fun nx => toRing_own r k2 nx
  have own1' := fun nx => ringForm_own r k3 hz nx
  rw [hrl] at own0 own1'
  have neg1 : decide (1 + 2 * (n : Int) < 0) = false := by simp; omega
  refine .skip ?_
  refine hK4 _ ?_
  refine .sq fun K7 hK7 => ?_
  refine .region ?_
  refine .kf 1 (toRing_fc r k2) hb19 ?_
  refine .f (ringFormS_fc r k3 hz) hb45 ?_
  refine .e ?_
  refine hK7 _ ?_
  refine .sq fun K8 hK8 => ?_
  refine .region ?_
  refine .k 1 ?_
  refine AOPS.ocallL 4 (own0 _) rfl rfl rfl hb19 (by simp (disch := first|omega|(simp only[ln];omega)) [lv, idf_Wd', lv_sp, lv_sg, lv_m2, lv_int, lv_bool, lv_nsl, List.map_map, List.length_map, hrl, htl, tkR, tkT, mkR_len, mkR_take]) (⟨fun _ h => by simp [nwr, nwrL]; try exact h, by simp [nwr, nwrL, Sp.cells, Sg.cells]⟩) (by simp (disch := first|omega|(simp only[ln];omega))) (by simp) ?_
  intro ix nx2 nx2a nx2b
  simp only [] at nx2a nx2b
  simp only [puts_some, updo]
  refine .e ?_
  refine hK8 _ ?_
  refine .sq fun K9 hK9 => ?_
  refine .region ?_
  refine .k 1 ?_
  refine AOPS.ocallL 4 (own1' _) rfl rfl rfl hb42 (by simp (disch := first|omega|(simp only[ln];omega)) [lv, idf_Wd', lv_sp, lv_sg, lv_m2, lv_int, lv_bool, lv_nsl, List.map_map, List.length_map, hrl, htl, tkR, tkT, mkR_len, mkR_take]) (⟨fun _ h => by simp [nwr, nwrL]; try exact h, by simp [nwr, nwrL, Sp.cells, Sg.cells]⟩) (by simp (disch := first|omega|(simp only[ln];omega))) (by simp) ?_
  intro ig nx3 nx3a nx3b
  simp only [] at nx3a nx3b
  simp only [puts_some, updo]
  refine .e ?_
  refine hK9 _ ?_
  refine .sq fun K10 hK10 => ?_
  refine .sq fun K11 hK11 => ?_
  refine .region ?_
  refine .k 2 ?_ (by simp (disch := first|omega|(simp only[ln];omega)) [List.take_succ_cons, List.take_zero, hrl, htl]; rfl)
  refine AOPS.lcall 4 (eqRing_fc (fmR r) (by omega)) rfl rfl rfl hb22 (by simp (disch := first|omega|(simp only[ln];omega)) [lv, idf_Wd', lv_sp, lv_sg, lv_m2, lv_int, lv_bool, lv_nsl, List.map_map, List.length_map, hrl, htl, tkR, tkT, mkR_len, mkR_take, hrl, htl]) (by simp [atm, atmL]) (by simp (disch := first|omega|(simp only[ln];omega)) [hrl, htl]) (by simp) ?_
  simp only [puts_some, updo]
  refine .e ?_ (by simp (disch := first|omega|(simp only[ln];omega)) [hrl, htl]; rfl)
  refine hK11 _ ?_
  refine .c (fun h26 => ?_) (fun h26 => ?_)
  ·simp at h26
  ·try simp only[dc]at h26
   refine .skip ?_
   refine hK10 _ ?_
   refine .sq fun K12 hK12 => ?_
   refine .sq fun K13 hK13 => ?_
   refine AWP.drawT 3 Try.checked.mixed (by kernel_rfl) (by kernel_rfl) ?_
   simp only [List.take_succ_cons, List.take_zero, List.drop_succ_cons, List.drop_zero]
   refine .k 2 (fun fs14 hfs14 => ?_) (by simp (disch := first|omega|(simp only[ln];omega)) [runDf.eq_def, runF1, runF2, stepF.eq_def, updo.eq_def, hupo.eq_def, opSto1.eq_def, List.take_succ_cons, List.take_zero, hrl, htl]; rfl)
   refine .f (toRing_fc r k2) hb19 ?_ (ha := by simp (disch := first|omega|(simp only[ln];omega)) [idf_Wd', hrl, htl])
   simp only [DP]
   refine AOPS.lcall 4 (eqRing_fc r hl) rfl rfl rfl hb22 (by simp (disch := first|omega|(simp only[ln];omega)) [lv, idf_Wd', lv_sp, lv_sg, lv_m2, lv_int, lv_bool, lv_nsl, List.map_map, List.length_map, hrl, htl, tkR, tkT, mkR_len, mkR_take, hrl, htl]) (by simp [atm, atmL]) (by simp (disch := first|omega|(simp only[ln];omega)) [hrl, htl]) (by simp) ?_
   simp only [puts_some, updo]
   refine .e ?_ (by simp (disch := first|omega|(simp only[ln];omega)) [hrl, htl]; rfl)
   refine hK13 _ ?_
   refine .c (fun h31 => ?_) (fun h31 => ?_)
   ·simp at h31
   ·try simp only[dc]at h31
    refine .skip ?_
    refine hK12 _ ?_
    refine .q ?_
    refine .sq fun K16 hK16 => ?_
    have J16 : ∀ s : St, (∃ a4 a6 ig : Nat, (nx < a4 ∧ a4 < a6 ∧ ig ≠ nx ∧ ig ≠ a4 ∧ ig ≠ a6) ∧ s.env 1 = .ptr nx 0 0 ∧ s.env 4 = .ptr a4 0 0 ∧ s.env 6 = .ptr a6 0 0 ∧ s.env 7 = .int .i64 (1 + 2 * (n : Int)) ∧ s.heap nx = some (1, [[.isl (r.map Sp.cells)]]) ∧ nx < s.nx ∧ s.heap a4 = some (1, [[.isl ((fmR r).map Sp.cells)]]) ∧ a4 < s.nx ∧ s.heap a6 = some (1, [[.osl ig 0 n]]) ∧ a6 < s.nx ∧ s.heap ig = some (2, (fmR r).map Sp.cells) ∧ ig < s.nx ∧ s.nt = 69) → K16 s := by
     rintro ⟨e, H, mm, nt⟩ ⟨a4, a6, ig, sep, g1, g4, g6, g7, Hr, xr, Hw, xw, Hg, xg, HG, xG, rfl⟩
     simp only [] at g1 g4 g6 g7 Hr xr Hw xw Hg xg HG xG
     refine hK16 _ ?_
     refine .sq fun K17 hK17 => ?_
     refine .sq fun K18 hK18 => ?_
     refine .region ?_
     refine .k 5 ?_ (by simp (disch := first|omega|(simp only[ln];omega)) [List.take_succ_cons, List.take_zero, g1, g4, g6, g7, Hr, Hw, Hg, HG, neg1]; rfl)
     refine AOPS.lcall 4 (eqRing_fc (fmR r) (by omega)) rfl rfl rfl hb22 (by simp (disch := first|omega|(simp only[ln];omega)) [lv, idf_Wd', lv_sp, lv_sg, lv_m2, lv_int, lv_bool, lv_nsl, List.map_map, List.length_map, hrl, htl, tkR, tkT, mkR_len, mkR_take, g1, g4, g6, g7, Hr, Hw, Hg, HG, neg1]) (by simp [atm, atmL]) (by simp (disch := first|omega|(simp only[ln];omega)) [g1, g4, g6, g7, Hr, Hw, Hg, HG, neg1]) (by simp) ?_
     simp only [puts_some, updo]
     refine .e ?_ (by simp (disch := first|omega|(simp only[ln];omega)) [g1, g4, g6, g7, Hr, Hw, Hg, HG, neg1]; rfl)
     refine hK18 _ ?_
     refine .c (fun h42 => ?_) (fun h42 => ?_)
     ·simp at h42
     ·try simp only[dc]at h42
      refine .skip ?_
      refine hK17 _ ?_
      refine .q ?_
      refine .sq fun K20 hK20 => ?_
      have J20 : ∀ s : St, (∃ a4 a6 ig : Nat, (nx < a4 ∧ a4 < a6 ∧ ig ≠ nx ∧ ig ≠ a4 ∧ ig ≠ a6) ∧ s.env 1 = .ptr nx 0 0 ∧ s.env 4 = .ptr a4 0 0 ∧ s.env 6 = .ptr a6 0 0 ∧ s.env 8 = .int .i64 (1 + 2 * (n : Int)) ∧ s.heap nx = some (1, [[.isl (r.map Sp.cells)]]) ∧ nx < s.nx ∧ s.heap a4 = some (1, [[.isl ((fmR r).map Sp.cells)]]) ∧ a4 < s.nx ∧ s.heap a6 = some (1, [[.osl ig 0 n]]) ∧ a6 < s.nx ∧ s.heap ig = some (2, mkR (m2 1) n) ∧ ig < s.nx ∧ s.nt = 69) → K20 s := by
       clear g1 g4 g6 g7 Hr xr Hw xw Hg xg HG xG sep
       rintro ⟨e, H, mm, nt⟩ ⟨a4, a6, ig, sep, g1, g4, g6, g8, Hr, xr, Hw, xw, Hg, xg, HG, xG, rfl⟩
       simp only [] at g1 g4 g6 g8 Hr xr Hw xw Hg xg HG xG
       refine hK20 _ ?_
       refine .q ?_
       refine .sq fun K22 hK22 => ?_
       refine .region ?_
       refine .k 2 ?_ (by simp (disch := first|omega|(simp only[ln];omega)) [List.take_succ_cons, List.take_zero, g1, g4, g6, g8, Hr, Hw, Hg, HG]; rfl)
       refine AOPS.lcall 4 (heldRing_fc n 1 (by omega) (by omega) (by omega)) rfl rfl rfl hb46 (by simp (disch := first|omega|(simp only[ln];omega)) [lv, idf_Wd', lv_sp, lv_sg, lv_m2, lv_int, lv_bool, lv_nsl, List.map_map, List.length_map, hrl, htl, tkR, tkT, mkR_len, mkR_take, g1, g4, g6, g8, Hr, Hw, Hg, HG]) (by simp [atm, atmL]) (by simp (disch := first|omega|(simp only[ln];omega)) [g1, g4, g6, g8, Hr, Hw, Hg, HG]) (by simp) ?_
       simp only [puts_some, updo]
       refine .e ?_ (by simp (disch := first|omega|(simp only[ln];omega)) [g1, g4, g6, g8, Hr, Hw, Hg, HG]; rfl)
       refine hK22 _ ?_
       refine .sq fun K23 hK23 => ?_
       refine .q ?_ (by simp (disch := first|omega|(simp only[ln];omega)) [neg1]; rfl)
       refine .c (t := false) (fun h50 => ?_) (fun h50 => ?_) (by simp (disch := first|omega|(simp only[ln];omega)) [neg1])
       ·simp at h50
       ·try simp only[dc]at h50
        refine .skip ?_
        refine hK23 _ ?_
        refine .sq fun K25 hK25 => ?_
        refine .q ?_ (by simp (disch := first|omega|(simp only[ln];omega)) [g8]; rfl)
        refine .c (fun h53 => ?_) (fun h53 => ?_)
        ·simp at h53
        ·try simp only[dc]at h53
         refine .skip ?_
         refine hK25 _ ?_
         refine .sq fun K27 hK27 => ?_
         obtain ⟨sp1, sp2, sp3, sp4, sp5⟩ := sep
         refine .region ?_
         refine .kf 1 (toRing_fc r k2) hb19 ?_ (by simp (disch := first|omega|(simp only[ln];omega)) [List.take_succ_cons, List.take_zero, g1, Hr]; rfl) (ha := by simp (disch := first|omega|(simp only[ln];omega)) [idf_Wd', g1, Hr])
         refine AOPS.ocallL 4 (own1' _) rfl rfl rfl hb42 (by simp (disch := first|omega|(simp only[ln];omega)) [lv, idf_Wd', lv_sp, lv_sg, lv_m2, lv_int, lv_bool, lv_nsl, List.map_map, List.length_map, hrl, htl, tkR, tkT, mkR_len, mkR_take, g1, Hr]) (⟨fun _ h => by simp [nwr, nwrL]; try exact h, by simp [nwr, nwrL, Sp.cells, Sg.cells]⟩) (by simp (disch := first|omega|(simp only[ln];omega)) [g1, Hr]) (by simp) ?_
         intro ih nx6 nx6a nx6b
         simp only [] at nx6a nx6b
         simp only [puts_some, updo]
         refine .e ?_ (by simp (disch := first|omega|(simp only[ln];omega)) [g1, Hr]; rfl)
         refine hK27 _ ?_
         refine .sq fun K28 hK28 => ?_
         refine .sq fun K29 hK29 => ?_
         refine .region ?_
         refine .k 2 ?_ (by simp (disch := first|omega|(simp only[ln];omega)) [List.take_succ_cons, List.take_zero, g4, Hw]; rfl)
         refine AOPS.lcall 4 (eqRing_fc (fmR r) (by omega)) rfl rfl rfl hb22 (by simp (disch := first|omega|(simp only[ln];omega)) [lv, idf_Wd', lv_sp, lv_sg, lv_m2, lv_int, lv_bool, lv_nsl, List.map_map, List.length_map, hrl, htl, tkR, tkT, mkR_len, mkR_take, g4, Hw]) (by simp [atm, atmL]) (by simp (disch := first|omega|(simp only[ln];omega)) [g4, Hw]) (by simp) ?_
         simp only [puts_some, updo]
         refine .e ?_ (by simp (disch := first|omega|(simp only[ln];omega)) [g4, Hw]; rfl)
         refine hK29 _ ?_
         refine .c (fun h60 => ?_) (fun h60 => ?_)
         ·simp at h60
         ·try simp only[dc]at h60
          refine .skip ?_
          refine hK28 _ ?_
          refine .q ?_
          refine .sq fun K31 hK31 => ?_
          refine .region ?_
          refine .k 2 ?_ (by simp (disch := first|omega|(simp only[ln];omega)) [List.take_succ_cons, List.take_zero, g6, Hg, HG]; rfl)
          refine AOPS.lcall 4 (heldRing_fc n 1 (by omega) (by omega) (by omega)) rfl rfl rfl hb46 (by simp (disch := first|omega|(simp only[ln];omega)) [lv, idf_Wd', lv_sp, lv_sg, lv_m2, lv_int, lv_bool, lv_nsl, List.map_map, List.length_map, hrl, htl, tkR, tkT, mkR_len, mkR_take, g6, Hg, HG]) (by simp [atm, atmL]) (by simp (disch := first|omega|(simp only[ln];omega)) [g6, Hg, HG]) (by simp) ?_
          simp only [puts_some, updo]
          refine .e ?_ (by simp (disch := first|omega|(simp only[ln];omega)) [g6, Hg, HG]; rfl)
          refine hK31 _ ?_
          refine .sq fun K32 hK32 => ?_
          refine .q ?_ (by simp (disch := first|omega|(simp only[ln];omega)) [neg1]; rfl)
          refine .c (t := false) (fun h65 => ?_) (fun h65 => ?_) (by simp (disch := first|omega|(simp only[ln];omega)) [neg1])
          ·simp at h65
          ·try simp only[dc]at h65
           refine .skip ?_
           refine hK32 _ ?_
           refine .sq fun K34 hK34 => ?_
           refine .q ?_ (by simp (disch := first|omega|(simp only[ln];omega)) [g8]; rfl)
           refine .c (fun h68 => ?_) (fun h68 => ?_)
           ·simp at h68
           ·try simp only[dc]at h68
            refine .skip ?_
            refine hK34 _ ?_
            refine .q ?_
            refine .ret ?_
            exact hK _ _ _ _ trivial ((Fin.m))
      obtain ⟨sp1, sp2, sp3, sp4, sp5⟩ := sep
      refine .region ?_
      refine .k 2 ?_ (by simp (disch := first|omega|(simp only[ln];omega)) [List.take_succ_cons, List.take_zero, g1, g4, g6, g7, Hr, Hw, Hg, HG]; rfl)
      refine .a (markRing_ac n ig ((fmR r).map Sp.cells) 1 _ _ (by simp (disch := omega) [HG]) (by simp; omega) (by rw [List.length_map]; exact htl) (toRing_len (fmR r)) (by omega) (by omega) (by omega)) hb23 ?_ (ha := by simp (disch := first|omega|(simp only[ln];omega)) [idf_Wd', g1, g4, g6, g7, Hr, Hw, Hg, HG])
      rintro _ H3 nx5 ⟨rfl, hM2, hfr2, hle2⟩
      simp only [] at hfr2 hle2
      refine .e ?_ (by simp (disch := first|omega|(simp only[ln];omega)) [g1, g4, g6, g7, Hr, Hw, Hg, HG]; rfl)
      refine J20 _ ?_
      exact ⟨a4, a6, ig, ⟨sp1, sp2, sp3, sp4, sp5⟩, by simp [g1], by simp [g4], by simp [g6], by simp, (hfr2 _ (by omega) (by omega)).trans (by simp (disch := omega) [Hr]), by first | omega | (simp; omega), (hfr2 _ (by omega) (by omega)).trans (by simp (disch := omega) [Hw]), by first | omega | (simp; omega), (hfr2 _ (by omega) (by omega)).trans (by simp (disch := omega) [Hg]), by first | omega | (simp; omega), hM2, by first | omega | (simp; omega), rfl⟩
    refine .region ?_
    refine .k 2 ?_
    refine .a (markRing_ac n ix (r.map Sp.cells) 1 _ _ (by simp (disch := omega)) (by simp; omega) (by rw [List.length_map]; exact hrl) (toRing_len r) (by omega) (by omega) (by omega)) hb23 ?_
    rintro _ H2 nx4 ⟨rfl, hM, hfr, hle⟩
    simp only [] at hfr hle
    refine .e ?_
    refine J16 _ ?_
    exact ⟨nx + 1, nx3, ig, ⟨by omega, by omega, by omega, by omega, by omega⟩, by simp, by simp, by simp, by simp, (hfr _ (by omega) (by omega)).trans (by simp (disch := omega)), by first | omega | (simp; omega), (hfr _ (by omega) (by omega)).trans (by simp (disch := omega)), by first | omega | (simp; omega), (hfr _ (by omega) (by omega)).trans (by simp (disch := omega)), by first | omega | (simp; omega), (hfr _ (by omega) (by omega)).trans (by simp (disch := omega)), by first | omega | (simp; omega), rfl⟩
set_option maxHeartbeats 4000000 in
theorem fnExactRingForm_no (r : List Sp) (hl : r.length ≤ 9223372036854775807) (hz : ¬ rgF r = 0) : FC Try.prog 9 [.agg [.isl (r.map Sp.cells)]] (.bool true) := by
 refine .b Try.func9 69 (fun nx K hK => ?_) (hi := by simp [idfL, idf, idfLL_iff, Sp.av, Sp.cells, Sg.av, Sg.cells])
 refine .q ?_
 refine .q ?_
 refine .sq fun K3 hK3 => ?_
 refine .region ?_
 refine .kf 2 (szRing_fc r 1048576 (by omega) (by omega) hl) hb17 ?_
 refine .e ?_
 refine hK3 _ ?_
 refine .sq fun K4 hK4 => ?_
 refine .q ?_
 refine .c (t := decide (szN r.length 1048576 < 0)) (fun h15 => ?_) (fun h15 => ?_)
 ·try simp only[dc]at h15
  refine .q ?_
  refine .ret ?_
  exact hK _ _ _ _ trivial ((Fin.m))
 ·try simp only[dc]at h15
  obtain ⟨k1, _⟩ := szN_le h15
  have k2 : r.length ≤ 1048576 := by omega
  have k3 : r.length ≤ 1099511627776 := by omega
  obtain ⟨n, hrl⟩ : ∃ n, r.length = n := ⟨_, rfl⟩
  have htl : n = n := rfl
  have tkR : List.take n (List.map Sp.cells r) = List.map Sp.cells r := List.take_of_length_le (by rw [List.length_map]; omega)
  have own0 := fun nx => toRing_own r k2 nx
  rw [hrl] at own0
  have neg1 : decide (1 + 2 * (n : Int) < 0) = false := by simp; omega
  refine .skip ?_
  refine hK4 _ ?_
  refine .sq fun K7 hK7 => ?_
  refine .region ?_
  refine .kf 1 (toRing_fc r k2) hb19 ?_
  refine .f (ringFormS_no r k3 hz) hb45 ?_
  refine .e ?_
  refine hK7 _ ?_
  refine .sq fun K8 hK8 => ?_
  refine .region ?_
  refine .k 1 ?_
  refine AOPS.ocallL 4 (own0 _) rfl rfl rfl hb19 (by simp (disch := first|omega|(simp only[ln];omega)) [lv, idf_Wd', lv_sp, lv_sg, lv_m2, lv_int, lv_bool, lv_nsl, List.map_map, List.length_map, hrl, tkR]) (⟨fun _ h => by simp [nwr, nwrL]; try exact h, by simp [nwr, nwrL, Sp.cells, Sg.cells]⟩) (by simp (disch := first|omega|(simp only[ln];omega))) (by simp) ?_
  intro ix nx2 nx2a nx2b
  simp only [] at nx2a nx2b
  simp only [puts_some, updo]
  refine .e ?_
  refine hK8 _ ?_
  refine .sq fun K9 hK9 => ?_
  refine .region ?_
  refine .k 1 ?_
  refine AOPS.lcall 4 (ringForm_no r k3 hz) rfl rfl rfl hb42 (by simp (disch := first|omega|(simp only[ln];omega)) [lv, idf_Wd', lv_sp, lv_sg, lv_m2, lv_int, lv_bool, lv_nsl, List.map_map, List.length_map, hrl, tkR]) (by simp [atm, atmL]) (by simp (disch := first|omega|(simp only[ln];omega))) (by simp) ?_
  simp only [puts_some, updo]
  refine .e ?_
  refine hK9 _ ?_
  refine .sq fun K10 hK10 => ?_
  refine .sq fun K11 hK11 => ?_
  refine .region ?_
  refine .kf 2 eqRing_nil2 hb22 ?_
  refine .e ?_
  refine hK11 _ ?_
  refine .c (fun h26 => ?_) (fun h26 => ?_)
  ·simp at h26
  ·try simp only[dc]at h26
   refine .skip ?_
   refine hK10 _ ?_
   refine .sq fun K12 hK12 => ?_
   refine .sq fun K13 hK13 => ?_
   refine AWP.drawT 3 Try.checked.mixed (by kernel_rfl) (by kernel_rfl) ?_
   simp only [List.take_succ_cons, List.take_zero, List.drop_succ_cons, List.drop_zero]
   refine .k 2 (fun fs14 hfs14 => ?_) (by simp (disch := first|omega|(simp only[ln];omega)) [runDf.eq_def, runF1, runF2, stepF.eq_def, updo.eq_def, hupo.eq_def, opSto1.eq_def, List.take_succ_cons, List.take_zero, hrl]; rfl)
   refine .f (toRing_fc r k2) hb19 ?_ (ha := by simp (disch := first|omega|(simp only[ln];omega)) [idf_Wd', hrl])
   simp only [DP]
   refine AOPS.lcall 4 (eqRing_fc r hl) rfl rfl rfl hb22 (by simp (disch := first|omega|(simp only[ln];omega)) [lv, idf_Wd', lv_sp, lv_sg, lv_m2, lv_int, lv_bool, lv_nsl, List.map_map, List.length_map, hrl, tkR, hrl]) (by simp [atm, atmL]) (by simp (disch := first|omega|(simp only[ln];omega)) [hrl]) (by simp) ?_
   simp only [puts_some, updo]
   refine .e ?_ (by simp (disch := first|omega|(simp only[ln];omega)) [hrl]; rfl)
   refine hK13 _ ?_
   refine .c (fun h31 => ?_) (fun h31 => ?_)
   ·simp at h31
   ·try simp only[dc]at h31
    refine .skip ?_
    refine hK12 _ ?_
    refine .q ?_
    refine .sq fun K16 hK16 => ?_
    have J16 : ∀ s : St, (∃ a4 a6 : Nat, (nx < a4 ∧ a4 < a6) ∧ s.env 1 = .ptr nx 0 0 ∧ s.env 4 = .ptr a4 0 0 ∧ s.env 6 = .ptr a6 0 0 ∧ s.env 7 = .int .i64 (1 + 2 * (n : Int)) ∧ s.heap nx = some (1, [[.isl (r.map Sp.cells)]]) ∧ nx < s.nx ∧ s.heap a4 = some (1, [[.nsl]]) ∧ a4 < s.nx ∧ s.heap a6 = some (1, [[.nsl]]) ∧ a6 < s.nx ∧ s.nt = 69) → K16 s := by
     rintro ⟨e, H, mm, nt⟩ ⟨a4, a6, sep, g1, g4, g6, g7, Hr, xr, Hw, xw, Hg, xg, rfl⟩
     simp only [] at g1 g4 g6 g7 Hr xr Hw xw Hg xg
     refine hK16 _ ?_
     refine .sq fun K17 hK17 => ?_
     refine .sq fun K18 hK18 => ?_
     obtain ⟨sp1, sp2⟩ := sep
     refine .region ?_
     refine .kf 5 eqRing_nil2 hb22 ?_ (by simp (disch := first|omega|(simp only[ln];omega)) [List.take_succ_cons, List.take_zero, g1, g4, g6, g7, Hr, Hw, Hg, neg1]; rfl) (ha := by simp (disch := first|omega|(simp only[ln];omega)) [idf_Wd', g1, g4, g6, g7, Hr, Hw, Hg, neg1])
     refine .e ?_ (by simp (disch := first|omega|(simp only[ln];omega)) [g1, g4, g6, g7, Hr, Hw, Hg, neg1]; rfl)
     refine hK18 _ ?_
     refine .c (fun h42 => ?_) (fun h42 => ?_)
     ·simp at h42
     ·try simp only[dc]at h42
      refine .skip ?_
      refine hK17 _ ?_
      refine .q ?_
      refine .sq fun K20 hK20 => ?_
      refine .region ?_
      refine .kf 2 (markRing_nil2 1 (by omega) (by omega)) hb23 ?_ (by simp (disch := first|omega|(simp only[ln];omega)) [List.take_succ_cons, List.take_zero, g1, g4, g6, g7, Hr, Hw, Hg]; rfl) (ha := by simp (disch := first|omega|(simp only[ln];omega)) [idf_Wd', g1, g4, g6, g7, Hr, Hw, Hg])
      refine .e ?_ (by simp (disch := first|omega|(simp only[ln];omega)) [g1, g4, g6, g7, Hr, Hw, Hg]; rfl)
      refine hK20 _ ?_
      refine .q ?_
      refine .sq fun K22 hK22 => ?_
      refine .region ?_
      refine .kf 2 (heldRing_nil2 1 (by omega) (by omega)) hb46 ?_ (by simp (disch := first|omega|(simp only[ln];omega)) [List.take_succ_cons, List.take_zero, g1, g4, g6, g7, Hr, Hw, Hg]; rfl) (ha := by simp (disch := first|omega|(simp only[ln];omega)) [idf_Wd', g1, g4, g6, g7, Hr, Hw, Hg])
      refine .e ?_ (by simp (disch := first|omega|(simp only[ln];omega)) [g1, g4, g6, g7, Hr, Hw, Hg]; rfl)
      refine hK22 _ ?_
      refine .sq fun K23 hK23 => ?_
      refine .q ?_
      refine .c (fun h50 => ?_) (fun h50 => ?_)
      ·simp at h50
      ·try simp only[dc]at h50
       refine .skip ?_
       refine hK23 _ ?_
       refine .sq fun K25 hK25 => ?_
       refine .q ?_
       refine .c (fun h53 => ?_) (fun h53 => ?_)
       ·simp at h53
       ·try simp only[dc]at h53
        refine .skip ?_
        refine hK25 _ ?_
        refine .sq fun K27 hK27 => ?_
        refine .region ?_
        refine .kf 1 (toRing_fc r k2) hb19 ?_ (by simp (disch := first|omega|(simp only[ln];omega)) [List.take_succ_cons, List.take_zero, g1, Hr]; rfl) (ha := by simp (disch := first|omega|(simp only[ln];omega)) [idf_Wd', g1, Hr])
        refine .f (ringForm_no r k3 hz) hb42 ?_ (ha := by simp (disch := first|omega|(simp only[ln];omega)) [idf_Wd', g1, Hr])
        refine .e ?_ (by simp (disch := first|omega|(simp only[ln];omega)) [g1, Hr]; rfl)
        refine hK27 _ ?_
        refine .sq fun K28 hK28 => ?_
        refine .sq fun K29 hK29 => ?_
        refine .region ?_
        refine .kf 2 eqRing_nil2 hb22 ?_ (by simp (disch := first|omega|(simp only[ln];omega)) [List.take_succ_cons, List.take_zero, g4, Hw]; rfl) (ha := by simp (disch := first|omega|(simp only[ln];omega)) [idf_Wd', g4, Hw])
        refine .e ?_ (by simp (disch := first|omega|(simp only[ln];omega)) [g4, Hw]; rfl)
        refine hK29 _ ?_
        refine .c (fun h60 => ?_) (fun h60 => ?_)
        ·simp at h60
        ·try simp only[dc]at h60
         refine .skip ?_
         refine hK28 _ ?_
         refine .q ?_
         refine .sq fun K31 hK31 => ?_
         refine .region ?_
         refine .kf 2 (heldRing_nil2 1 (by omega) (by omega)) hb46 ?_ (by simp (disch := first|omega|(simp only[ln];omega)) [List.take_succ_cons, List.take_zero, g6, Hg]; rfl) (ha := by simp (disch := first|omega|(simp only[ln];omega)) [idf_Wd', g6, Hg])
         refine .e ?_ (by simp (disch := first|omega|(simp only[ln];omega)) [g6, Hg]; rfl)
         refine hK31 _ ?_
         refine .sq fun K32 hK32 => ?_
         refine .q ?_
         refine .c (fun h65 => ?_) (fun h65 => ?_)
         ·simp at h65
         ·try simp only[dc]at h65
          refine .skip ?_
          refine hK32 _ ?_
          refine .sq fun K34 hK34 => ?_
          refine .q ?_
          refine .c (fun h68 => ?_) (fun h68 => ?_)
          ·simp at h68
          ·try simp only[dc]at h68
           refine .skip ?_
           refine hK34 _ ?_
           refine .q ?_
           refine .ret ?_
           exact hK _ _ _ _ trivial ((Fin.m))
    refine .region ?_
    refine .k 2 ?_
    refine .a (markRing_ac n ix (r.map Sp.cells) 1 _ _ (by simp (disch := omega)) (by simp; omega) (by rw [List.length_map]; exact hrl) (toRing_len r) (by omega) (by omega) (by omega)) hb23 ?_
    rintro _ H2 nx4 ⟨rfl, hM, hfr, hle⟩
    simp only [] at hfr hle
    refine .e ?_
    refine J16 _ ?_
    exact ⟨nx + 1, nx2 + 1, ⟨by omega, by omega⟩, by simp, by simp, by simp, by simp, (hfr _ (by omega) (by omega)).trans (by simp (disch := omega)), by first | omega | (simp; omega), (hfr _ (by omega) (by omega)).trans (by simp (disch := omega)), by first | omega | (simp; omega), (hfr _ (by omega) (by omega)).trans (by simp (disch := omega)), by first | omega | (simp; omega), rfl⟩
end
theorem fnExactRingForm_fc (r : List Sp) (hl : r.length ≤ 9223372036854775807) : FC Try.prog 9 [.agg [.isl (r.map Sp.cells)]] (.bool true) := by
  by_cases hz : rgF r = 0
  · exact fnExactRingForm_yes r hl hz
  · exact fnExactRingForm_no r hl hz

end Go.Proofs.Ytdcajfgeleopiaa
