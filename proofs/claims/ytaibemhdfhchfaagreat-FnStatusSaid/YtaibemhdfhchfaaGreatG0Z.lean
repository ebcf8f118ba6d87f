/- Whole numbers as rows of digits: their values, the one row without noughts at its end. -/
import Derived.Test.YtaibemhdfhchfaaGreatG0Y
import Derived.Tactics
import Derived.Laws.MathBits
import Derived.Laws.BitsAllLaws
import Derived.Sort.AssemblyPlain

namespace Go.Proofs.YtaibemhdfhchfaaGreat

def val (B : Nat) : List Int → Int
  | [] => 0
  | x :: r => x + (B : Int) * val B r
def Dig (B : Nat) (l : List Int) : Prop := ∀ x ∈ l, 0 ≤ x ∧ x < (B : Int)
def Can (l : List Int) : Prop := l.getLast? ≠ some 0
def digs (B : Nat) (n : Nat) : List Int :=
  if h : n = 0 ∨ B ≤ 1 then [] else ((n % B : Nat) : Int) :: digs B (n / B)
  termination_by n
  decreasing_by exact Nat.div_lt_self (by omega) (by omega)
def trimW : List Int → List Int
  | [] => []
  | x :: r => match trimW r with
    | [] => if x = 0 then [] else [x]
    | y :: s => x :: y :: s

theorem Dig.nil (B : Nat) : Dig B [] := fun x h => by simp at h
theorem Dig.cons {B : Nat} {x : Int} {r : List Int} (h0 : 0 ≤ x) (h1 : x < B) (h : Dig B r) : Dig B (x :: r) := fun y hy => by
  rcases List.mem_cons.mp hy with rfl | hy
  · exact ⟨h0, h1⟩
  · exact h y hy
theorem Dig.head {B : Nat} {x : Int} {r : List Int} (h : Dig B (x :: r)) : 0 ≤ x ∧ x < (B : Int) := h x (by simp)
theorem Dig.tail {B : Nat} {x : Int} {r : List Int} (h : Dig B (x :: r)) : Dig B r := fun y hy => h y (by simp [hy])
theorem Dig.append {B : Nat} {l r : List Int} (h : Dig B l) (k : Dig B r) : Dig B (l ++ r) := fun x hx => by
  rcases List.mem_append.mp hx with h' | h'
  · exact h x h'
  · exact k x h'
theorem Dig.take {B : Nat} {l : List Int} (h : Dig B l) (n : Nat) : Dig B (l.take n) := fun x hx => h x (List.mem_of_mem_take hx)
theorem Dig.drop {B : Nat} {l : List Int} (h : Dig B l) (n : Nat) : Dig B (l.drop n) := fun x hx => h x (List.mem_of_mem_drop hx)
theorem Dig.get {B : Nat} {l : List Int} (h : Dig B l) {i : Nat} {x : Int} (hx : l[i]? = some x) : 0 ≤ x ∧ x < (B : Int) := h x (List.mem_of_getElem? hx)
theorem Dig.set {B : Nat} {l : List Int} (h : Dig B l) (i : Nat) {x : Int} (h0 : 0 ≤ x) (h1 : x < B) : Dig B (l.set i x) := fun y hy => by
  rcases List.mem_or_eq_of_mem_set hy with h' | h'
  · exact h y h'
  · rw [h']; exact ⟨h0, h1⟩
theorem Dig.replicate {B : Nat} (n : Nat) {x : Int} (h0 : 0 ≤ x) (h1 : x < B) : Dig B (List.replicate n x) := fun y hy => by
  rw [(List.mem_replicate.mp hy).2]; exact ⟨h0, h1⟩

theorem val_nonneg {B : Nat} : ∀ {l : List Int}, Dig B l → 0 ≤ val B l
  | [], _ => by simp [val]
  | x :: r, h => by
    have := val_nonneg h.tail
    have h1 := h.head
    unfold val
    have : 0 ≤ (B : Int) * val B r := Int.mul_nonneg (by omega) this
    omega

theorem val_append {B : Nat} : ∀ (l r : List Int), val B (l ++ r) = val B l + (B : Int) ^ l.length * val B r
  | [], r => by simp [val]
  | x :: l, r => by
    simp only [List.cons_append, val, val_append l r, List.length_cons]
    rw [Int.pow_succ, Int.mul_add, ← Int.mul_assoc, Int.mul_comm (B : Int) ((B : Int) ^ l.length)]
    omega

theorem val_lt {B : Nat} : ∀ {l : List Int}, Dig B l → val B l < (B : Int) ^ l.length
  | [], _ => by simp [val]
  | x :: r, h => by
    have ih := val_lt h.tail
    have h1 := h.head
    unfold val
    rw [List.length_cons, Int.pow_succ, Int.mul_comm]
    have h2 : val B r + 1 ≤ (B : Int) ^ r.length := by omega
    have h3 : (val B r + 1) * (B : Int) ≤ (B : Int) ^ r.length * (B : Int) := Int.mul_le_mul_of_nonneg_right h2 (by omega)
    rw [Int.add_mul] at h3
    rw [Int.mul_comm] 
    rw [Int.mul_comm (val B r)] at h3
    rw [Int.mul_comm (B : Int) (val B r)] at *
    omega

theorem val_replicate {B : Nat} : ∀ n, val B (List.replicate n 0) = 0
  | 0 => rfl
  | n + 1 => by simp [List.replicate_succ, val, val_replicate n]

theorem trimW_val {B : Nat} : ∀ l, val B (trimW l) = val B l
  | [] => rfl
  | x :: r => by
    have ih := trimW_val (B := B) r
    unfold trimW
    split
    · rename_i h
      rw [h] at ih
      simp only [val] at ih
      split
      · rename_i hx; simp [val, ← ih, hx]
      · simp [val, ← ih]
    · rename_i y s h
      rw [h] at ih
      simp only [val] at ih ⊢
      rw [ih]

theorem trimW_can : ∀ l, Can (trimW l)
  | [] => by simp [trimW, Can]
  | x :: r => by
    have ih := trimW_can r
    unfold trimW
    split
    · split
      · simp [Can]
      · rename_i hx; simp [Can, hx]
    · rename_i y s h
      rw [h] at ih
      unfold Can at *
      simpa [List.getLast?_cons_cons] using ih

theorem trimW_mem : ∀ (l : List Int) (x : Int), x ∈ trimW l → x ∈ l
  | [], x, h => by simp [trimW] at h
  | y :: r, x, h => by
    have ih := trimW_mem r x
    unfold trimW at h
    split at h
    · split at h
      · simp at h
      · simp at h; simp [h]
    · rename_i z s hz
      rw [hz] at ih
      rcases List.mem_cons.mp h with h | h
      · simp [h]
      · simp [ih h]
theorem Dig.trim {B : Nat} {l : List Int} (h : Dig B l) : Dig B (trimW l) := fun x hx => h x (trimW_mem l x hx)

theorem trimW_length : ∀ (l : List Int), (trimW l).length ≤ l.length
  | [] => by simp [trimW]
  | y :: r => by
    have ih := trimW_length r
    unfold trimW
    split
    · split <;> simp
    · rename_i z s hz
      rw [hz] at ih
      simp at ih ⊢; omega

theorem Can.tail {x y : Int} {r : List Int} (h : Can (x :: y :: r)) : Can (y :: r) := by
  unfold Can at *; simpa [List.getLast?_cons_cons] using h

theorem can_pos {B : Nat} (hB : 1 < B) : ∀ {l : List Int}, Dig B l → Can l → l ≠ [] → 0 < val B l
  | [], _, _, h => by simp at h
  | [x], hd, hc, _ => by
    have := hd.head
    have : x ≠ 0 := by intro e; subst e; simp [Can] at hc
    simp [val]; omega
  | x :: y :: r, hd, hc, _ => by
    have ih := can_pos hB hd.tail hc.tail (by simp)
    have := hd.head
    unfold val
    have : 0 < (B : Int) * val B (y :: r) := Int.mul_pos (by omega) ih
    omega

theorem digs_zero (B : Nat) : digs B 0 = [] := by rw [digs]; simp
theorem digs_pos {B n : Nat} (hB : 1 < B) (hn : n ≠ 0) : digs B n = ((n % B : Nat) : Int) :: digs B (n / B) := by
  rw [digs, dif_neg (by omega)]

theorem digs_val {B : Nat} (hB : 1 < B) : ∀ n, val B (digs B n) = n := by
  intro n
  induction n using Nat.strongRecOn with
  | _ n ih =>
    by_cases hn : n = 0
    · subst hn; simp [digs_zero, val]
    · rw [digs_pos hB hn, val, ih _ (Nat.div_lt_self (by omega) hB)]
      have := Nat.mod_add_div n B
      exact_mod_cast this

theorem digs_dig {B : Nat} (hB : 1 < B) : ∀ n, Dig B (digs B n) := by
  intro n
  induction n using Nat.strongRecOn with
  | _ n ih =>
    by_cases hn : n = 0
    · subst hn; rw [digs_zero]; exact Dig.nil B
    · rw [digs_pos hB hn]
      exact Dig.cons (by omega) (by exact_mod_cast Nat.mod_lt n (by omega)) (ih _ (Nat.div_lt_self (by omega) hB))

theorem digs_can {B : Nat} (hB : 1 < B) : ∀ n, Can (digs B n) := by
  intro n
  induction n using Nat.strongRecOn with
  | _ n ih =>
    by_cases hn : n = 0
    · subst hn; rw [digs_zero]; simp [Can]
    · rw [digs_pos hB hn]
      have ih' := ih _ (Nat.div_lt_self (by omega) hB)
      by_cases h2 : n / B = 0
      · rw [h2, digs_zero]
        have : n % B = n := by rw [Nat.mod_eq_of_lt]; rw [Nat.div_eq_zero_iff] at h2; omega
        unfold Can
        simp [this]; omega
      · rw [digs_pos hB h2] at ih' ⊢
        unfold Can at *; simpa [List.getLast?_cons_cons] using ih'

/-- A row of digits without noughts at its end is the row of its value. -/
theorem digs_of {B : Nat} (hB : 1 < B) : ∀ {l : List Int}, Dig B l → Can l → digs B (val B l).toNat = l
  | [], _, _ => by simp [val, digs_zero]
  | x :: r, hd, hc => by
    have hpos := can_pos hB hd hc (by simp)
    have h1 := hd.head
    have h2 := val_nonneg hd.tail
    rw [digs_pos hB (by omega)]
    have hv : val B (x :: r) = x + (B : Int) * val B r := rfl
    have e1 : (val B (x :: r)).toNat = x.toNat + B * (val B r).toNat := by
      rw [hv]
      have : (B : Int) * val B r = ((B * (val B r).toNat : Nat) : Int) := by rw [Int.natCast_mul, Int.toNat_of_nonneg h2]
      omega
    have hx : x.toNat < B := by omega
    have e2 : (val B (x :: r)).toNat % B = x.toNat := by rw [e1, Nat.add_mul_mod_self_left, Nat.mod_eq_of_lt hx]
    have e3 : (val B (x :: r)).toNat / B = (val B r).toNat := by rw [e1, Nat.add_mul_div_left _ _ (by omega), Nat.div_eq_of_lt hx]; omega
    rw [e2, e3, digs_of hB hd.tail (by
      cases r with
      | nil => simp [Can]
      | cons y s => exact hc.tail)]
    congr 1; omega

theorem trimW_digs {B : Nat} (hB : 1 < B) {l : List Int} (h : Dig B l) : trimW l = digs B (val B l).toNat := by
  rw [← trimW_val l, digs_of hB h.trim (trimW_can l)]

theorem digs_inj {B : Nat} (hB : 1 < B) {m n : Nat} (h : digs B m = digs B n) : m = n := by
  have h1 := digs_val hB m
  have h2 := digs_val hB n
  rw [h] at h1
  omega

theorem digs_eq_nil {B : Nat} (hB : 1 < B) {n : Nat} : digs B n = [] ↔ n = 0 := by
  constructor
  · intro h; exact digs_inj hB (by rw [h, digs_zero])
  · rintro rfl; exact digs_zero B

theorem digs_length_le {B : Nat} (hB : 1 < B) : ∀ (k n : Nat), n < B ^ k → (digs B n).length ≤ k
  | 0, n, h => by
    have : n = 0 := by simpa using h
    subst this; simp [digs_zero]
  | k + 1, n, h => by
    by_cases hn : n = 0
    · subst hn; simp [digs_zero]
    · rw [digs_pos hB hn, List.length_cons]
      have := digs_length_le hB k (n / B) (by rw [Nat.div_lt_iff_lt_mul (by omega)]; rwa [Nat.pow_succ] at h)
      omega

theorem trimW_concat_zero : ∀ (l : List Int), trimW (l ++ [0]) = trimW l
  | [] => by simp [trimW]
  | x :: r => by simp only [List.cons_append, trimW, trimW_concat_zero r]
theorem trimW_concat_pos : ∀ (l : List Int) (x : Int), x ≠ 0 → trimW (l ++ [x]) = l ++ [x]
  | [], x, h => by simp [trimW, h]
  | y :: r, x, h => by
    have ih := trimW_concat_pos r x h
    simp only [List.cons_append, trimW, ih]
    cases r <;> simp
end Go.Proofs.YtaibemhdfhchfaaGreat

/- Rows of digits compared. -/
namespace Go.Proofs.YtaibemhdfhchfaaGreat

def cmpAt (a b : List Int) : Nat → Int
  | 0 => 0
  | m + 1 => if gt a m = gt b m then cmpAt a b m else if gt a m < gt b m then -1 else 1
def cmpI (a b : List Int) : Int := if a.length = b.length then cmpAt a b a.length else (a.length : Int) - b.length
theorem cmpI_of {a b : List Int} (h : a.length = b.length) : cmpI a b = cmpAt a b a.length := by simp [cmpI, h]
theorem cmpI_ne {a b : List Int} (h : a.length ≠ b.length) : cmpI a b = (a.length : Int) - b.length := by simp [cmpI, h]

theorem val_take_succ {B : Nat} (l : List Int) (i : Nat) : val B (l.take (i + 1)) = val B (l.take i) + (B : Int) ^ i * gt l i := by
  by_cases h : i < l.length
  · rw [List.take_add_one, gt_some h, val_append]
    simp [val, Nat.min_eq_left (Nat.le_of_lt h)]
  · rw [List.take_of_length_le (by omega), List.take_of_length_le (by omega), gt_ge (by omega)]; simp
theorem val_take_all {B : Nat} {l : List Int} {i : Nat} (h : l.length ≤ i) : val B (l.take i) = val B l := by rw [List.take_of_length_le h]
theorem gt_set {l : List Int} {i : Nat} {v : Int} (h : i < l.length) : gt (l.set i v) i = v := by simp [gt, h]
theorem gt_set_ne {l : List Int} {i j : Nat} {v : Int} (h : i ≠ j) : gt (l.set i v) j = gt l j := by simp [gt, List.getElem?_set_ne h]
theorem take_set {l : List Int} {i : Nat} {v : Int} : (l.set i v).take i = l.take i := by
  rw [List.take_set, List.set_eq_of_length_le (by simp; omega)]
theorem val_set_take {B : Nat} {l : List Int} {i : Nat} {v : Int} (h : i < l.length) : val B ((l.set i v).take (i + 1)) = val B (l.take i) + (B : Int) ^ i * v := by
  rw [val_take_succ, take_set, gt_set h]
theorem Dig.gt {B : Nat} {l : List Int} (hB : 0 < B) (h : Dig B l) (i : Nat) : 0 ≤ gt l i ∧ gt l i < (B : Int) := by
  by_cases hi : i < l.length
  · exact h.get (gt_some hi)
  · rw [gt_ge (by omega)]; omega
theorem val_lt64 {l : List Int} (h : Dig 18446744073709551616 l) : val 18446744073709551616 l < (18446744073709551616 : Int) ^ l.length := val_lt h
theorem val_lt32 {l : List Int} (h : Dig 4294967296 l) : val 4294967296 l < (4294967296 : Int) ^ l.length := val_lt h
theorem val_take64 (l : List Int) (i : Nat) : val 18446744073709551616 (l.take (i + 1)) = val 18446744073709551616 (l.take i) + (18446744073709551616 : Int) ^ i * gt l i := val_take_succ l i
theorem val_take32 (l : List Int) (i : Nat) : val 4294967296 (l.take (i + 1)) = val 4294967296 (l.take i) + (4294967296 : Int) ^ i * gt l i := val_take_succ l i
end Go.Proofs.YtaibemhdfhchfaaGreat

/- Whole numbers with a sign and words: as values of the program. -/
namespace Go.Proofs.YtaibemhdfhchfaaGreat
open Go Go.RowKit

def mag (z : Int) : List Int := digs 18446744073709551616 z.natAbs
def numI (z : Int) : AV := .agg [.bool (decide (z < 0)), Wd .u64 (mag z)]
def sg (b : Bool) (v : Int) : Int := if b then -v else v
/-- Fewer than so many words. -/
def Bg (k : Nat) (z : Int) : Prop := z.natAbs < 18446744073709551616 ^ k

theorem mag_dig (z : Int) : Dig 18446744073709551616 (mag z) := digs_dig (by omega) _
theorem mag_can (z : Int) : Can (mag z) := digs_can (by omega) _
theorem mag_val (z : Int) : val 18446744073709551616 (mag z) = (z.natAbs : Int) := digs_val (by omega) _
theorem mag_abs (z : Int) : mag (z.natAbs : Int) = mag z := by simp [mag]
theorem mag_neg (z : Int) : mag (-z) = mag z := by simp [mag]
theorem mag_zero : mag 0 = [] := digs_zero _
theorem mag_nil {z : Int} : mag z = [] ↔ z = 0 := by unfold mag; rw [digs_eq_nil (by omega)]; omega
theorem mag_len0 {z : Int} : (mag z).length = 0 ↔ z = 0 := by rw [List.length_eq_zero_iff, mag_nil]
theorem mag_of {l : List Int} (h : Dig 18446744073709551616 l) : trimW l = mag (val 18446744073709551616 l) := by
  have := val_nonneg h
  rw [trimW_digs (by omega) h, mag]; congr 1; omega
theorem Bg.len {k : Nat} {z : Int} (h : Bg k z) : (mag z).length ≤ k := digs_length_le (by omega) k _ h
theorem Bg.le {j k : Nat} {z : Int} (h : Bg j z) (hk : j ≤ k) : Bg k z := Nat.lt_of_lt_of_le h (Nat.pow_le_pow_right (by omega) hk)
theorem Bg.abs {k : Nat} {z : Int} (h : Bg k z) : Bg k (z.natAbs : Int) := by unfold Bg at *; simpa using h
theorem Bg.neg {k : Nat} {z : Int} (h : Bg k z) : Bg k (-z) := by unfold Bg at *; simpa using h
theorem Bg.add {j k : Nat} {a b : Int} (ha : Bg j a) (hb : Bg k b) : Bg (max j k + 1) (a + b) := by
  unfold Bg at *
  have h1 : a.natAbs < 18446744073709551616 ^ max j k := Nat.lt_of_lt_of_le ha (Nat.pow_le_pow_right (by omega) (Nat.le_max_left _ _))
  have h2 : b.natAbs < 18446744073709551616 ^ max j k := Nat.lt_of_lt_of_le hb (Nat.pow_le_pow_right (by omega) (Nat.le_max_right _ _))
  rw [Nat.pow_succ]
  have := Int.natAbs_add_le a b
  omega
theorem Bg.sub {j k : Nat} {a b : Int} (ha : Bg j a) (hb : Bg k b) : Bg (max j k + 1) (a - b) := by rw [Int.sub_eq_add_neg]; exact ha.add hb.neg
theorem Bg.mul {j k : Nat} {a b : Int} (ha : Bg j a) (hb : Bg k b) : Bg (j + k) (a * b) := by
  unfold Bg at *
  rw [Int.natAbs_mul, Nat.pow_add]
  exact Nat.mul_lt_mul'' ha hb
theorem Bg.i64 {n : Int} (h1 : -9223372036854775808 ≤ n) (h2 : n ≤ 9223372036854775807) : Bg 1 n := by unfold Bg; omega
theorem Bg.zero : Bg 0 0 := by unfold Bg; simp

theorem sg_true (v : Int) : sg true v = -v := rfl
theorem sg_false (v : Int) : sg false v = v := rfl
theorem numI_mk {b : Bool} {l : List Int} (h : Dig 18446744073709551616 l) : AV.agg [.bool (b && decide (0 < (trimW l).length)), Wd .u64 (trimW l)] = numI (sg b (val 18446744073709551616 l)) := by
  have h0 := val_nonneg h
  have e1 : mag (sg b (val 18446744073709551616 l)) = trimW l := by
    rw [mag_of h]
    cases b
    · rfl
    · exact mag_neg _
  unfold numI
  rw [e1]
  have : decide (sg b (val 18446744073709551616 l) < 0) = (b && decide (0 < (trimW l).length)) := by
    have e2 : (0 < (trimW l).length) ↔ val 18446744073709551616 l ≠ 0 := by
      rw [mag_of h, Nat.pos_iff_ne_zero, ne_eq, mag_len0]
    cases b
    · simp [sg]; omega
    · simp only [sg, if_true, Bool.true_and, decide_eq_decide, e2]; omega
  rw [this]
theorem cells_numI (z : Int) : avCells (numI z) = some [.bool (decide (z < 0)), Wd .u64 (mag z)] := rfl
theorem numI_fold (z : Int) : AV.agg [.bool (decide (z < 0)), Wd .u64 (mag z)] = numI z := rfl
theorem idf_numI (z : Int) : idf (numI z) = True := by simp [numI, idf, idfL, idf_Wd']
theorem num0_weak {w : World} {β : Nat → Option Loc} {b : Nat → Bool} {v : Value} (h : VR w β b (.agg [.bool false, .nsl]) v) : VR w β b (numI 0) v := by
  obtain ⟨vs, rfl, u, r, e, h1, u2, r2, e2, h2, h3⟩ := h
  exact ⟨vs, rfl, u, r, e, h1, u2, r2, e2, (by rw [mag_zero]; exact nsl_Wd .u64 h2), h3⟩

theorem val_set {B : Nat} : ∀ {l : List Int} {i : Nat} {v : Int}, i < l.length → val B (l.set i v) = val B l + (B : Int) ^ i * (v - gt l i)
  | [], i, v, h => by simp at h
  | x :: r, 0, v, _ => by simp [val, gt]; omega
  | x :: r, i + 1, v, h => by
    have ih := val_set (B := B) (l := r) (i := i) (v := v) (by simpa using h)
    have e : gt (x :: r) (i + 1) = gt r i := by simp [gt]
    rw [List.set_cons_succ, e]
    simp only [val, ih, Int.pow_succ]
    grind
theorem val_setB {l : List Int} {i : Nat} {v : Int} (h : i < l.length) : val 18446744073709551616 (l.set i v) = val 18446744073709551616 l + (18446744073709551616 : Int) ^ i * (v - gt l i) := val_set h
theorem val_setC {l : List Int} {i : Nat} {v : Int} (h : i < l.length) : val 4294967296 (l.set i v) = val 4294967296 l + (4294967296 : Int) ^ i * (v - gt l i) := val_set h

/-- Words compared. -/
theorem cmpAt_spec {B : Nat} (hB : 1 < B) {a b : List Int} (da : Dig B a) (db : Dig B b) : ∀ n, (cmpAt a b n < 0 ↔ val B (a.take n) < val B (b.take n)) ∧ (cmpAt a b n = 0 ↔ val B (a.take n) = val B (b.take n))
  | 0 => by simp [cmpAt, val]
  | n + 1 => by
    have ih := cmpAt_spec hB da db n
    rw [val_take_succ, val_take_succ]
    have ha := val_lt (da.take n)
    have hb := val_lt (db.take n)
    have ha0 := val_nonneg (da.take n)
    have hb0 := val_nonneg (db.take n)
    have hp : ∀ (l : List Int), (B : Int) ^ (l.take n).length ≤ (B : Int) ^ n := fun l => by
      have : B ^ (l.take n).length ≤ B ^ n := Nat.pow_le_pow_right (by omega) (by simp; omega)
      exact_mod_cast this
    have h1 := hp a
    have h2 := hp b
    unfold cmpAt
    by_cases e : gt a n = gt b n
    · rw [if_pos e, e]
      constructor
      · rw [ih.1]; omega
      · rw [ih.2]; omega
    · rw [if_neg e]
      by_cases e2 : gt a n < gt b n
      · rw [if_pos e2]
        have h3 : (B : Int) ^ n * (gt a n + 1) ≤ (B : Int) ^ n * gt b n := Int.mul_le_mul_of_nonneg_left (by omega) (by omega)
        rw [Int.mul_add, Int.mul_one] at h3
        constructor
        · constructor
          · intro _; omega
          · intro _; omega
        · constructor
          · intro h; omega
          · intro h; omega
      · rw [if_neg e2]
        have h3 : (B : Int) ^ n * (gt b n + 1) ≤ (B : Int) ^ n * gt a n := Int.mul_le_mul_of_nonneg_left (by omega) (by omega)
        rw [Int.mul_add, Int.mul_one] at h3
        constructor
        · constructor
          · intro h; omega
          · intro h; omega
        · constructor
          · intro h; omega
          · intro h; omega

theorem can_len_lt {B : Nat} (hB : 1 < B) {a b : List Int} (da : Dig B a) (db : Dig B b) (cb : Can b) (h : a.length < b.length) : val B a < val B b := by
  have h1 := val_lt da
  have h2 : (B : Int) ^ (b.length - 1) ≤ val B b := by
    have e := val_take_succ (B := B) b (b.length - 1)
    rw [val_take_all (by omega)] at e
    have h3 := val_nonneg (db.take (b.length - 1))
    have h4 : 1 ≤ gt b (b.length - 1) := by
      have h5 := db.gt (by omega) (b.length - 1)
      have h6 : gt b (b.length - 1) ≠ 0 := by
        intro h7
        unfold Can at cb
        rw [List.getLast?_eq_getElem?] at cb
        rw [gt_some (by omega), h7] at cb
        exact cb rfl
      omega
    have h8 : (B : Int) ^ (b.length - 1) * 1 ≤ (B : Int) ^ (b.length - 1) * gt b (b.length - 1) := Int.mul_le_mul_of_nonneg_left h4 (by
      have : 0 ≤ ((B ^ (b.length - 1) : Nat) : Int) := Int.natCast_nonneg _
      rwa [Int.natCast_pow] at this)
    omega
  have h9 : (B : Int) ^ a.length ≤ (B : Int) ^ (b.length - 1) := by
    have : B ^ a.length ≤ B ^ (b.length - 1) := Nat.pow_le_pow_right (by omega) (by omega)
    exact_mod_cast this
  omega

theorem cmpI_spec {B : Nat} (hB : 1 < B) {a b : List Int} (da : Dig B a) (db : Dig B b) (ca : Can a) (cb : Can b) : (cmpI a b < 0 ↔ val B a < val B b) ∧ (cmpI a b = 0 ↔ val B a = val B b) := by
  by_cases h : a.length = b.length
  · rw [cmpI_of h]
    have := cmpAt_spec hB da db a.length
    rwa [val_take_all (Nat.le_refl _), val_take_all (by omega)] at this
  · rw [cmpI_ne h]
    rcases Nat.lt_or_gt_of_ne h with h1 | h1
    · have := can_len_lt hB da db cb h1
      omega
    · have := can_len_lt hB db da ca h1
      omega
theorem cmpI_mag (a b : Int) : (cmpI (mag a) (mag b) < 0 ↔ a.natAbs < b.natAbs) ∧ (cmpI (mag a) (mag b) = 0 ↔ a.natAbs = b.natAbs) := by
  have := cmpI_spec (B := 18446744073709551616) (by omega) (mag_dig a) (mag_dig b) (mag_can a) (mag_can b)
  rw [mag_val, mag_val] at this
  omega
end Go.Proofs.YtaibemhdfhchfaaGreat

/- Arithmetic of 64 bits in halves. -/
namespace Go.Proofs.YtaibemhdfhchfaaGreat
open Go

theorem mul64_hi (x y : Int) (hx0 : 0 ≤ x) (hx : x < 18446744073709551616) (hy0 : 0 ≤ y) (hy : y < 18446744073709551616) :
    (x / 4294967296 * (y / 4294967296) +
                (x / 4294967296 * (y % 4294967296) +
                      x % 4294967296 * (y % 4294967296) % 18446744073709551616 / 4294967296) %
                    18446744073709551616 /
                  4294967296 +
              ((x / 4294967296 * (y % 4294967296) +
                        x % 4294967296 * (y % 4294967296) % 18446744073709551616 / 4294967296) %
                      4294967296 +
                    x % 4294967296 * (y / 4294967296)) %
                  18446744073709551616 /
                4294967296) %
            18446744073709551616 = x * y / 18446744073709551616 := by
  have ex : x = x / 4294967296 * 4294967296 + x % 4294967296 := by omega
  have ey : y = y / 4294967296 * 4294967296 + y % 4294967296 := by omega
  generalize hx1 : x / 4294967296 = x1 at *
  generalize hx0' : x % 4294967296 = x0 at *
  generalize hy1 : y / 4294967296 = y1 at *
  generalize hy0' : y % 4294967296 = y0 at *
  have b1 : 0 ≤ x1 ∧ x1 ≤ 4294967295 := by omega
  have b2 : 0 ≤ x0 ∧ x0 ≤ 4294967295 := by omega
  have b3 : 0 ≤ y1 ∧ y1 ≤ 4294967295 := by omega
  have b4 : 0 ≤ y0 ∧ y0 ≤ 4294967295 := by omega
  have pA := prod_bound x1 y1 b1.1 b1.2 b3.1 b3.2
  have pB := prod_bound x1 y0 b1.1 b1.2 b4.1 b4.2
  have pC := prod_bound x0 y0 b2.1 b2.2 b4.1 b4.2
  have pD := prod_bound x0 y1 b2.1 b2.2 b3.1 b3.2
  have hxy : x * y = x1 * y1 * 18446744073709551616 + (x1 * y0 + x0 * y1) * 4294967296 + x0 * y0 := by rw [ex, ey]; exact split_mul x1 x0 y1 y0
  rw [hxy]
  generalize x1 * y1 = A at *
  generalize x1 * y0 = B at *
  generalize x0 * y0 = C at *
  generalize x0 * y1 = D at *
  omega

theorem tab_of (tab : ByteArray) (h : ((List.range 256).all fun j => match tab[j]? with | some c => c.toNat == bitLen j | none => false) = true) (y : Nat) (hy : y < 256) :
    (match tab[y]? with | some c => some (AV.int .u8 c.toNat) | none => none) = some (.int .u8 (bitLen y : Int)) := by
  have := List.all_eq_true.mp h y (List.mem_range.mpr hy)
  split at this
  · rename_i c hc
    have e : c.toNat = bitLen y := by simpa using this
    simp [e]
  · simp at this

theorem bitLen_le64 {x : Nat} (hx : x < 18446744073709551616) : bitLen x ≤ 64 := by
  unfold bitLen; split
  · omega
  · rename_i h0
    have := (Nat.log2_lt h0).2 (show x < 2 ^ 64 from hx)
    omega
theorem bitLen_of {n k : Nat} (h1 : 2 ^ k ≤ n) (h2 : n < 2 ^ (k + 1)) : bitLen n = k + 1 := by
  have hn : n ≠ 0 := by have := Nat.two_pow_pos k; omega
  unfold bitLen
  rw [if_neg hn]
  have e := (Nat.log2_eq_iff hn).2 ⟨h1, h2⟩
  omega
/-- The bits of a number by its highest word. -/
theorem bitLen_top (z : Int) (q : Nat) (h : 0 < (mag z).length) (hq : gt (mag z) ((mag z).length - 1) = (q : Int)) : bitLen z.natAbs + 64 = 64 * (mag z).length + bitLen q := by
  have hz := mag_val z
  have e := val_take_succ (B := 18446744073709551616) (mag z) ((mag z).length - 1)
  rw [val_take_all (by omega), hz, hq] at e
  have h1 := val_lt ((mag_dig z).take ((mag z).length - 1))
  have h2 := val_nonneg ((mag_dig z).take ((mag z).length - 1))
  have hlen : ((mag z).take ((mag z).length - 1)).length = (mag z).length - 1 := by simp
  rw [hlen] at h1
  generalize hm : (mag z).length - 1 = m at *
  generalize val 18446744073709551616 ((mag z).take m) = v at *
  obtain ⟨V, rfl⟩ := Int.eq_ofNat_of_zero_le h2
  have hP : ((18446744073709551616 : Nat) : Int) ^ m = ((18446744073709551616 ^ m : Nat) : Int) := by rw [Int.natCast_pow]
  rw [hP] at e h1
  have hp2 : 18446744073709551616 ^ m = 2 ^ (64 * m) := by rw [Nat.pow_mul]
  rw [hp2] at e h1
  have hq0 : q ≠ 0 := by
    intro h0
    subst h0
    have hcan := mag_can z
    unfold Can at hcan
    rw [List.getLast?_eq_getElem?, hm, gt_some (by omega), hq] at hcan
    exact hcan rfl
  have hb : bitLen q = q.log2 + 1 := by unfold bitLen; rw [if_neg hq0]
  have hl1 := Nat.log2_self_le hq0
  have hl2 : q < 2 ^ (q.log2 + 1) := Nat.lt_log2_self
  have hV : V < 2 ^ (64 * m) := by omega
  have e' : z.natAbs = V + 2 ^ (64 * m) * q := by
    have : ((2 ^ (64 * m) : Nat) : Int) * (q : Int) = ((2 ^ (64 * m) * q : Nat) : Int) := by rw [Int.natCast_mul]
    rw [this] at e; omega
  have r1 : 2 ^ (64 * m + q.log2) ≤ z.natAbs := by
    rw [e', Nat.pow_add]
    have := Nat.mul_le_mul_left (2 ^ (64 * m)) hl1
    omega
  have r2 : z.natAbs < 2 ^ (64 * m + q.log2 + 1) := by
    rw [e', Nat.add_assoc, Nat.pow_add]
    have := Nat.mul_le_mul_left (2 ^ (64 * m)) (show q + 1 ≤ 2 ^ (q.log2 + 1) by omega)
    rw [Nat.mul_add] at this
    omega
  have := bitLen_of r1 r2
  omega

theorem xor_all {b : Nat} (hb : b < 18446744073709551616) : 18446744073709551615 ^^^ b = 18446744073709551615 - b := by
  have e1 : (18446744073709551615 : Nat) = 2 ^ 64 - 1 := rfl
  have e2 : 18446744073709551615 - b = 2 ^ 64 - (b + 1) := by omega
  rw [e2, e1]
  apply Nat.eq_of_testBit_eq
  intro i
  rw [Nat.testBit_xor, Nat.testBit_two_pow_sub_one, Nat.testBit_two_pow_sub_succ hb]
  by_cases hi : i < 64
  · simp [hi]
  · have hp : 2 ^ 64 ≤ 2 ^ i := Nat.pow_le_pow_right (show 0 < 2 by decide) (show 64 ≤ i by omega)
    have : b.testBit i = false := Nat.testBit_lt_two_pow (Nat.lt_of_lt_of_le (show b < 2 ^ 64 from hb) hp)
    simp [hi, this]
theorem not_u64 {x : Int} (h0 : 0 ≤ x) (h1 : x < 18446744073709551616) : bits .xor .u64 (if IntKind.u64.signed = true then -1 else IntKind.u64.max) x = 18446744073709551615 - x := by
  have e : (if IntKind.u64.signed = true then (-1 : Int) else IntKind.u64.max) = 18446744073709551615 := rfl
  rw [e, u64_xor _ _ (by omega) (by omega) h0 h1]
  have := xor_all (b := x.toNat) (by omega)
  rw [show (18446744073709551615 : Int).toNat = 18446744073709551615 from rfl, this]
  omega
end Go.Proofs.YtaibemhdfhchfaaGreat

/- Numbers of 256 bits. -/
namespace Go.Proofs.YtaibemhdfhchfaaGreat
open Go

/-- A number of 256 bits by its four words, and its value. -/
def wdI (w3 w2 w1 w0 : Int) : AV := .agg [.int .u64 w3, .int .u64 w2, .int .u64 w1, .int .u64 w0]
def uval (w3 w2 w1 w0 : Int) : Int := w0 + 18446744073709551616 * (w1 + 18446744073709551616 * (w2 + 18446744073709551616 * w3))
def sval (w3 w2 w1 w0 : Int) : Int := if w3 < 9223372036854775808 then uval w3 w2 w1 w0 else uval w3 w2 w1 w0 - 115792089237316195423570985008687907853269984665640564039457584007913129639936
def U64 (x : Int) : Prop := 0 ≤ x ∧ x < 18446744073709551616

theorem val4 (a b c d : Int) : val 18446744073709551616 [a, b, c, d] = uval d c b a := by simp [val, uval]
theorem list4 {l : List Int} (h : l.length = 4) : l = [gt l 0, gt l 1, gt l 2, gt l 3] := by
  match l, h with
  | [a, b, c, d], _ => rfl
theorem dig4 {a b c d : Int} (ha : U64 a) (hb : U64 b) (hc : U64 c) (hd : U64 d) : Dig 18446744073709551616 [a, b, c, d] :=
  Dig.cons ha.1 ha.2 (Dig.cons hb.1 hb.2 (Dig.cons hc.1 hc.2 (Dig.cons hd.1 hd.2 (Dig.nil _))))
theorem sval_bg {a b c d : Int} (ha : U64 a) (hb : U64 b) (hc : U64 c) (hd : U64 d) : Bg 4 (sval a b c d) := by
  unfold Bg sval uval
  unfold U64 at *
  split <;> omega
theorem comp4 (a b c d : Int) : uval (18446744073709551615 - a) (18446744073709551615 - b) (18446744073709551615 - c) (18446744073709551615 - d) = 115792089237316195423570985008687907853269984665640564039457584007913129639935 - uval a b c d := by
  unfold uval; omega

/-- A number told in 256 bits. -/
def fits (z : Int) : Bool := decide (-57896044618658097711785492504343953926634992332820282019728792003956564819968 ≤ z ∧ z < 57896044618658097711785492504343953926634992332820282019728792003956564819968)
def modW (z : Int) : Int := z % 115792089237316195423570985008687907853269984665640564039457584007913129639936
def wdZ (z : Int) : AV := wdI (modW z / 18446744073709551616 / 18446744073709551616 / 18446744073709551616) (modW z / 18446744073709551616 / 18446744073709551616 % 18446744073709551616) (modW z / 18446744073709551616 % 18446744073709551616) (modW z % 18446744073709551616)
def wdT (z : Int) : AV := if fits z then wdZ z else wdI 0 0 0 0
theorem bitLen_le {n k : Nat} : bitLen n ≤ k ↔ n < 2 ^ k := by
  have h := bitLen_spec n
  constructor
  · intro hk
    exact Nat.lt_of_lt_of_le h.1 (Nat.pow_le_pow_right (by omega) hk)
  · intro hk
    rcases Nat.lt_or_ge k (bitLen n) with hlt | hge
    · exfalso
      have hn : n ≠ 0 := by
        intro e; subst e; simp [bitLen] at hlt
      have h2 := h.2 hn
      have : 2 ^ k ≤ 2 ^ (bitLen n - 1) := Nat.pow_le_pow_right (by omega) (by omega)
      omega
    · exact hge
theorem fits_iff {z : Int} : (bitLen (if z < 0 then z + 1 else z).natAbs ≤ 255) ↔ fits z = true := by
  rw [bitLen_le, fits, decide_eq_true_eq]
  have e : (2 : Nat) ^ 255 = 57896044618658097711785492504343953926634992332820282019728792003956564819968 := by decide
  rw [e]
  split <;> omega
theorem idf_wdZ (z : Int) : idf (wdZ z) = True := by unfold wdZ wdI; simp [idf, idfL]
def wdC (z : Int) : List AV := [.int .u64 (modW z / 18446744073709551616 / 18446744073709551616 / 18446744073709551616), .int .u64 (modW z / 18446744073709551616 / 18446744073709551616 % 18446744073709551616), .int .u64 (modW z / 18446744073709551616 % 18446744073709551616), .int .u64 (modW z % 18446744073709551616)]
theorem cells_wdZ (z : Int) : avCells (wdZ z) = some (wdC z) := rfl
theorem wdC_len (z : Int) : (wdC z).length = 4 := rfl
theorem wdC_all (z : Int) : (wdC z).all avOne = true := rfl
theorem wdC_one (z : Int) : (∀ x ∈ wdC z, avOne x = true) = True := by simp [wdC, avOne]
theorem wdC_take (z : Int) : (wdC z).take 4 = wdC z := rfl
theorem wdC_agg (z : Int) : AV.agg (wdC z) = wdZ z := rfl
theorem idf_wdT (z : Int) : idf (wdT z) = True := by
  unfold wdT wdZ wdI; split <;> simp [idf, idfL]
end Go.Proofs.YtaibemhdfhchfaaGreat

/- Whole numbers with digits in base 2 to the 32: as values of the reference. -/
namespace Go.Proofs.YtaibemhdfhchfaaGreat
open Go Go.RowKit

def dg (z : Int) : List Int := digs 4294967296 z.natAbs
def numS (z : Int) : AV := .agg [.bool (decide (z < 0)), Wd .u32 (dg z)]
theorem dg_dig (z : Int) : Dig 4294967296 (dg z) := digs_dig (by omega) _
theorem dg_can (z : Int) : Can (dg z) := digs_can (by omega) _
theorem dg_val (z : Int) : val 4294967296 (dg z) = (z.natAbs : Int) := digs_val (by omega) _
theorem dg_abs (z : Int) : dg (z.natAbs : Int) = dg z := by simp [dg]
theorem dg_neg (z : Int) : dg (-z) = dg z := by simp [dg]
theorem dg_zero : dg 0 = [] := digs_zero _
theorem dg_nil {z : Int} : dg z = [] ↔ z = 0 := by unfold dg; rw [digs_eq_nil (by omega)]; omega
theorem dg_len0 {z : Int} : (dg z).length = 0 ↔ z = 0 := by rw [List.length_eq_zero_iff, dg_nil]
theorem dg_of {l : List Int} (h : Dig 4294967296 l) : trimW l = dg (val 4294967296 l) := by
  have := val_nonneg h
  rw [trimW_digs (by omega) h, dg]; congr 1; omega
theorem Bg.len32 {k : Nat} {z : Int} (h : Bg k z) : (dg z).length ≤ 2 * k := by
  refine digs_length_le (by omega) _ _ ?_
  have : (4294967296 : Nat) ^ (2 * k) = 18446744073709551616 ^ k := by rw [Nat.pow_mul]
  rw [this]; exact h
theorem numS_mk {b : Bool} {l : List Int} (h : Dig 4294967296 l) (hn : trimW l ≠ []) : AV.agg [.bool b, Wd .u32 (trimW l)] = numS (sg b (val 4294967296 l)) := by
  have h0 := val_nonneg h
  have e1 : dg (sg b (val 4294967296 l)) = trimW l := by
    rw [dg_of h]
    cases b
    · rfl
    · exact dg_neg _
  have h1 : val 4294967296 l ≠ 0 := by
    intro e
    rw [dg_of h, e, dg_zero] at hn
    exact hn rfl
  unfold numS
  rw [e1]
  have : decide (sg b (val 4294967296 l) < 0) = b := by
    cases b
    · simp [sg]; omega
    · simp [sg]; omega
  rw [this]
theorem nS0_weak {w : World} {β : Nat → Option Loc} {b : Nat → Bool} {v : Value} (h : VR w β b (.agg [.bool false, .nsl]) v) : VR w β b (numS 0) v := by
  obtain ⟨vs, rfl, u, r, e, h1, u2, r2, e2, h2, h3⟩ := h
  exact ⟨vs, rfl, u, r, e, h1, u2, r2, e2, (by rw [dg_zero]; exact nsl_Wd .u32 h2), h3⟩
theorem sg_zero (b : Bool) : sg b 0 = 0 := by cases b <;> rfl
theorem cells_numS (z : Int) : avCells (numS z) = some [.bool (decide (z < 0)), Wd .u32 (dg z)] := rfl
theorem numS_fold (z : Int) : AV.agg [.bool (decide (z < 0)), Wd .u32 (dg z)] = numS z := rfl
theorem idf_numS (z : Int) : idf (numS z) = True := by simp [numS, idf, idfL, idf_Wd']
theorem take_succ_gt {l : List Int} {m : Nat} (h : m < l.length) : l.take (m + 1) = l.take m ++ [gt l m] := by
  rw [List.take_add_one, gt_some h]; rfl
def cmpS (a b : List Int) : Int := if a.length = b.length then cmpAt a b a.length else if a.length < b.length then -1 else 1
theorem cmpS_spec {B : Nat} (hB : 1 < B) {a b : List Int} (da : Dig B a) (db : Dig B b) (ca : Can a) (cb : Can b) : (cmpS a b < 0 ↔ val B a < val B b) ∧ (cmpS a b = 0 ↔ val B a = val B b) := by
  unfold cmpS
  by_cases h : a.length = b.length
  · rw [if_pos h]
    have := cmpAt_spec hB da db a.length
    rwa [val_take_all (Nat.le_refl _), val_take_all (by omega)] at this
  · rw [if_neg h]
    rcases Nat.lt_or_gt_of_ne h with h1 | h1
    · have := can_len_lt hB da db cb h1
      rw [if_pos h1]; omega
    · have := can_len_lt hB db da ca h1
      rw [if_neg (by omega)]; omega
theorem cmpS_dg (a b : Int) : (cmpS (dg a) (dg b) < 0 ↔ a.natAbs < b.natAbs) ∧ (cmpS (dg a) (dg b) = 0 ↔ a.natAbs = b.natAbs) := by
  have := cmpS_spec (B := 4294967296) (by omega) (dg_dig a) (dg_dig b) (dg_can a) (dg_can b)
  rw [dg_val, dg_val] at this
  omega
/-- The bits of a number by its highest digit. -/
theorem bitLen_topS (z : Int) (q : Nat) (h : 0 < (dg z).length) (hq : gt (dg z) ((dg z).length - 1) = (q : Int)) : bitLen z.natAbs + 32 = 32 * (dg z).length + bitLen q := by
  have hz := dg_val z
  have e := val_take_succ (B := 4294967296) (dg z) ((dg z).length - 1)
  rw [val_take_all (by omega), hz, hq] at e
  have h1 := val_lt ((dg_dig z).take ((dg z).length - 1))
  have h2 := val_nonneg ((dg_dig z).take ((dg z).length - 1))
  have hlen : ((dg z).take ((dg z).length - 1)).length = (dg z).length - 1 := by simp
  rw [hlen] at h1
  generalize hm : (dg z).length - 1 = m at *
  generalize val 4294967296 ((dg z).take m) = v at *
  obtain ⟨V, rfl⟩ := Int.eq_ofNat_of_zero_le h2
  have hP : ((4294967296 : Nat) : Int) ^ m = ((4294967296 ^ m : Nat) : Int) := by rw [Int.natCast_pow]
  rw [hP] at e h1
  have hp2 : 4294967296 ^ m = 2 ^ (32 * m) := by rw [Nat.pow_mul]
  rw [hp2] at e h1
  have hq0 : q ≠ 0 := by
    intro h0
    subst h0
    have hcan := dg_can z
    unfold Can at hcan
    rw [List.getLast?_eq_getElem?, hm, gt_some (by omega), hq] at hcan
    exact hcan rfl
  have hb : bitLen q = q.log2 + 1 := by unfold bitLen; rw [if_neg hq0]
  have hl1 := Nat.log2_self_le hq0
  have hl2 : q < 2 ^ (q.log2 + 1) := Nat.lt_log2_self
  have hV : V < 2 ^ (32 * m) := by omega
  have e' : z.natAbs = V + 2 ^ (32 * m) * q := by
    have : ((2 ^ (32 * m) : Nat) : Int) * (q : Int) = ((2 ^ (32 * m) * q : Nat) : Int) := by rw [Int.natCast_mul]
    rw [this] at e; omega
  have r1 : 2 ^ (32 * m + q.log2) ≤ z.natAbs := by
    rw [e', Nat.pow_add]
    have := Nat.mul_le_mul_left (2 ^ (32 * m)) hl1
    omega
  have r2 : z.natAbs < 2 ^ (32 * m + q.log2 + 1) := by
    rw [e', Nat.add_assoc, Nat.pow_add]
    have := Nat.mul_le_mul_left (2 ^ (32 * m)) (show q + 1 ≤ 2 ^ (q.log2 + 1) by omega)
    rw [Nat.mul_add] at this
    omega
  have := bitLen_of r1 r2
  omega
theorem bitLen_half {x : Nat} (h : x ≠ 0) : bitLen x = 1 + bitLen (x / 2) := by
  by_cases h2 : x / 2 = 0
  · have : x = 1 := by omega
    subst this; decide
  · have := bitLen_shift x 1 (by simpa using h2)
    simpa using this
end Go.Proofs.YtaibemhdfhchfaaGreat

/- Sums and differences of rows of digits, as the reference reckons them. -/
namespace Go.Proofs.YtaibemhdfhchfaaGreat
open Go

/-- After so many digits: what is written, what is carried. -/
def addR (a b : List Int) : Nat → List Int × Int
  | 0 => ([], 0)
  | i + 1 => ((addR a b i).1 ++ [((addR a b i).2 + gt a i + gt b i) % 4294967296], ((addR a b i).2 + gt a i + gt b i) / 4294967296)
def subR (a b : List Int) : Nat → List Int × Int
  | 0 => ([], 0)
  | i + 1 => ((subR a b i).1 ++ [(gt a i - ((subR a b i).2 + gt b i)) % 4294967296], if gt a i < (subR a b i).2 + gt b i then 1 else 0)
def addO (a b : List Int) : List Int := (addR a b a.length).1 ++ (if (addR a b a.length).2 > 0 then [(addR a b a.length).2 % 4294967296] else [])
def addS (a b : List Int) : List Int := if a.length < b.length then addO b a else addO a b
def subS (a b : List Int) : List Int := (subR a b a.length).1

theorem addR_spec {a b : List Int} (da : Dig 4294967296 a) (db : Dig 4294967296 b) : ∀ i, (addR a b i).1.length = i ∧ Dig 4294967296 (addR a b i).1 ∧ 0 ≤ (addR a b i).2 ∧ (addR a b i).2 ≤ 1 ∧
    val 4294967296 (addR a b i).1 + (addR a b i).2 * (4294967296 : Int) ^ i = val 4294967296 (a.take i) + val 4294967296 (b.take i)
  | 0 => by simp [addR, val, Dig.nil]
  | i + 1 => by
    obtain ⟨h1, h2, h3, h4, h5⟩ := addR_spec da db i
    have ga := da.gt (by omega) i
    have gb := db.gt (by omega) i
    simp only [addR]
    generalize (addR a b i).2 = c at *
    generalize (addR a b i).1 = o at *
    refine ⟨by simp [h1], h2.append (Dig.cons (by omega) (by omega) (Dig.nil _)), by omega, by omega, ?_⟩
    rw [val_append, val_take32, val_take32, h1, Int.pow_succ]
    simp only [val]
    have := Int.emod_add_mul_ediv (c + gt a i + gt b i) 4294967296
    grind

theorem addO_spec {a b : List Int} (da : Dig 4294967296 a) (db : Dig 4294967296 b) (h : b.length ≤ a.length) : Dig 4294967296 (addO a b) ∧ (addO a b).length ≤ a.length + 1 ∧ val 4294967296 (addO a b) = val 4294967296 a + val 4294967296 b := by
  obtain ⟨h1, h2, h3, h4, h5⟩ := addR_spec da db a.length
  rw [val_take_all (Nat.le_refl _), val_take_all h] at h5
  unfold addO
  generalize (addR a b a.length).2 = c at *
  generalize (addR a b a.length).1 = o at *
  split
  · refine ⟨h2.append (Dig.cons (by omega) (by omega) (Dig.nil _)), by simp [h1], ?_⟩
    rw [val_append, h1]
    simp only [val]
    have : c = 1 := by omega
    subst this
    have e : (1 : Int) % 4294967296 = 1 := rfl
    rw [e]
    have e2 : ((4294967296 : Nat) : Int) = (4294967296 : Int) := rfl
    rw [e2]; omega
  · have : c = 0 := by omega
    subst this
    exact ⟨by simpa using h2, by simp [h1], by simp; omega⟩
theorem addS_spec {a b : List Int} (da : Dig 4294967296 a) (db : Dig 4294967296 b) : Dig 4294967296 (addS a b) ∧ (addS a b).length ≤ max a.length b.length + 1 ∧ val 4294967296 (addS a b) = val 4294967296 a + val 4294967296 b := by
  unfold addS
  split
  · have := addO_spec db da (by omega)
    exact ⟨this.1, by omega, by omega⟩
  · have := addO_spec da db (by omega)
    exact ⟨this.1, by omega, by omega⟩

theorem subR_spec {a b : List Int} (da : Dig 4294967296 a) (db : Dig 4294967296 b) : ∀ i, (subR a b i).1.length = i ∧ Dig 4294967296 (subR a b i).1 ∧ 0 ≤ (subR a b i).2 ∧ (subR a b i).2 ≤ 1 ∧
    val 4294967296 (subR a b i).1 - (subR a b i).2 * (4294967296 : Int) ^ i = val 4294967296 (a.take i) - val 4294967296 (b.take i)
  | 0 => by simp [subR, val, Dig.nil]
  | i + 1 => by
    obtain ⟨h1, h2, h3, h4, h5⟩ := subR_spec da db i
    have ga := da.gt (by omega) i
    have gb := db.gt (by omega) i
    simp only [subR]
    generalize (subR a b i).2 = c at *
    generalize (subR a b i).1 = o at *
    refine ⟨by simp [h1], h2.append (Dig.cons (by omega) (by omega) (Dig.nil _)), by split <;> omega, by split <;> omega, ?_⟩
    rw [val_append, val_take32, val_take32, h1, Int.pow_succ]
    simp only [val]
    have e : (gt a i - (c + gt b i)) % 4294967296 = gt a i - (c + gt b i) + 4294967296 * (if gt a i < c + gt b i then (1 : Int) else 0) := by split <;> omega
    rw [e]
    grind
theorem subS_spec {a b : List Int} (da : Dig 4294967296 a) (db : Dig 4294967296 b) (h : b.length ≤ a.length) (hv : val 4294967296 b ≤ val 4294967296 a) : Dig 4294967296 (subS a b) ∧ (subS a b).length = a.length ∧ val 4294967296 (subS a b) = val 4294967296 a - val 4294967296 b := by
  obtain ⟨h1, h2, h3, h4, h5⟩ := subR_spec da db a.length
  rw [val_take_all (Nat.le_refl _), val_take_all h] at h5
  unfold subS
  have h6 := val_lt32 h2
  rw [h1] at h6
  generalize (subR a b a.length).2 = c at *
  generalize (subR a b a.length).1 = o at *
  refine ⟨h2, h1, ?_⟩
  have : c = 0 ∨ c = 1 := by omega
  rcases this with rfl | rfl
  · omega
  · exfalso; omega
end Go.Proofs.YtaibemhdfhchfaaGreat

/- A row of digits moved up by bits, as the reference reckons it. -/
namespace Go.Proofs.YtaibemhdfhchfaaGreat
open Go

def leftR (d : List Int) (p : Int) : Nat → List Int × Int
  | 0 => ([], 0)
  | i + 1 => ((leftR d p i).1 ++ [((leftR d p i).2 + gt d i * p) % 4294967296], ((leftR d p i).2 + gt d i * p) / 4294967296)

theorem leftR_spec {d : List Int} (dd : Dig 4294967296 d) {p : Int} (hp : 1 ≤ p) : ∀ i, (leftR d p i).1.length = i ∧ Dig 4294967296 (leftR d p i).1 ∧ 0 ≤ (leftR d p i).2 ∧ (leftR d p i).2 < p ∧
    val 4294967296 (leftR d p i).1 + (leftR d p i).2 * (4294967296 : Int) ^ i = val 4294967296 (d.take i) * p
  | 0 => by simp [leftR, val, Dig.nil]; omega
  | i + 1 => by
    obtain ⟨h1, h2, h3, h4, h5⟩ := leftR_spec dd hp i
    have gd := dd.gt (by omega) i
    simp only [leftR]
    generalize (leftR d p i).2 = c at *
    generalize (leftR d p i).1 = o at *
    have hm : gt d i * p ≤ 4294967295 * p := Int.mul_le_mul_of_nonneg_right (by omega) (by omega)
    have hm0 : 0 ≤ gt d i * p := Int.mul_nonneg gd.1 (by omega)
    refine ⟨by simp [h1], h2.append (Dig.cons (by omega) (by omega) (Dig.nil _)), by omega, by omega, ?_⟩
    rw [val_append, val_take32, h1, Int.pow_succ]
    simp only [val]
    have := Int.emod_add_mul_ediv (c + gt d i * p) 4294967296
    grind

def leftL (d : List Int) (q : Nat) (p : Int) : List Int := List.replicate q 0 ++ (leftR d p d.length).1 ++ (if (leftR d p d.length).2 > 0 then [(leftR d p d.length).2 % 4294967296] else [])
theorem leftL_spec {d : List Int} (dd : Dig 4294967296 d) (q : Nat) {p : Int} (hp : 1 ≤ p) (hp2 : p ≤ 2147483648) : Dig 4294967296 (leftL d q p) ∧ (leftL d q p).length ≤ q + d.length + 1 ∧ val 4294967296 (leftL d q p) = (4294967296 : Int) ^ q * (val 4294967296 d * p) := by
  obtain ⟨h1, h2, h3, h4, h5⟩ := leftR_spec dd hp d.length
  rw [val_take_all (Nat.le_refl _)] at h5
  unfold leftL
  generalize (leftR d p d.length).2 = c at *
  generalize (leftR d p d.length).1 = o at *
  have hr : Dig 4294967296 (List.replicate q (0 : Int)) := Dig.replicate _ (by omega) (by omega)
  split
  · refine ⟨(hr.append h2).append (Dig.cons (by omega) (by omega) (Dig.nil _)), by simp [h1]; omega, ?_⟩
    rw [val_append, val_append, val_replicate]
    simp only [List.length_append, List.length_replicate, h1, val]
    have e : c % 4294967296 = c := Int.emod_eq_of_lt h3 (by omega)
    rw [e, Int.pow_add]
    have e2 : ((4294967296 : Nat) : Int) = (4294967296 : Int) := rfl
    rw [e2]
    grind
  · have : c = 0 := by omega
    subst this
    refine ⟨by simpa using hr.append h2, by simp [h1], ?_⟩
    rw [List.append_nil, val_append, val_replicate]
    simp only [List.length_replicate]
    have e2 : ((4294967296 : Nat) : Int) = (4294967296 : Int) := rfl
    rw [e2]
    grind
/-- Or of parts that do not meet. -/
theorem or_join {c d : Int} {k : Nat} (hc0 : 0 ≤ c) (hc : c < 2 ^ k) (hd : 0 ≤ d) (ht : d * 2 ^ k < 18446744073709551616) (hc2 : c < 18446744073709551616) : bits .or .u64 c (d * 2 ^ k) = c + d * 2 ^ k := by
  have hp : (0 : Int) < 2 ^ k := Int.pow_pos (by omega)
  have h0 : 0 ≤ d * 2 ^ k := Int.mul_nonneg hd (by omega)
  rw [u64_or c _ hc0 hc2 h0 ht]
  obtain ⟨C, rfl⟩ := Int.eq_ofNat_of_zero_le hc0
  obtain ⟨D, rfl⟩ := Int.eq_ofNat_of_zero_le hd
  have e : ((D : Int) * 2 ^ k).toNat = D * 2 ^ k := by
    have : (D : Int) * 2 ^ k = ((D * 2 ^ k : Nat) : Int) := by simp
    rw [this, Int.toNat_natCast]
  have hC : C < 2 ^ k := by
    have : ((2 ^ k : Nat) : Int) = (2 : Int) ^ k := by simp
    omega
  rw [e, Int.toNat_natCast, Nat.or_comm, nat_join k (D * 2 ^ k) C (by simp) hC]
  push_cast
  omega
end Go.Proofs.YtaibemhdfhchfaaGreat

/- A number of 256 bits in eight digits. -/
namespace Go.Proofs.YtaibemhdfhchfaaGreat
open Go

def row8 (w3 w2 w1 w0 : Int) : List Int := [w0 % 4294967296, w0 / 4294967296, w1 % 4294967296, w1 / 4294967296, w2 % 4294967296, w2 / 4294967296, w3 % 4294967296, w3 / 4294967296]
theorem dig8 {w3 w2 w1 w0 : Int} (h0 : 0 ≤ w0 ∧ w0 < 18446744073709551616) (h1 : 0 ≤ w1 ∧ w1 < 18446744073709551616) (h2 : 0 ≤ w2 ∧ w2 < 18446744073709551616) (h3 : 0 ≤ w3 ∧ w3 < 18446744073709551616) : Dig 4294967296 (row8 w3 w2 w1 w0) := by
  unfold row8
  exact Dig.cons (by omega) (by omega) (Dig.cons (by omega) (by omega) (Dig.cons (by omega) (by omega) (Dig.cons (by omega) (by omega) (Dig.cons (by omega) (by omega) (Dig.cons (by omega) (by omega) (Dig.cons (by omega) (by omega) (Dig.cons (by omega) (by omega) (Dig.nil _))))))))
theorem val8 (w3 w2 w1 w0 : Int) : val 4294967296 (row8 w3 w2 w1 w0) = uval w3 w2 w1 w0 := by
  simp only [row8, val, uval]
  have e : ((4294967296 : Nat) : Int) = (4294967296 : Int) := rfl
  rw [e]; omega
theorem row8_top : (dg 115792089237316195423570985008687907853269984665640564039457584007913129639936).length ≤ 9 := digs_length_le (by omega) 9 _ (by decide)
theorem row8_len (w3 w2 w1 w0 : Int) : (row8 w3 w2 w1 w0).length ≤ (dg 115792089237316195423570985008687907853269984665640564039457584007913129639936).length := by
  show 8 ≤ _
  rcases Nat.lt_or_ge (dg 115792089237316195423570985008687907853269984665640564039457584007913129639936).length 8 with h | h
  · exfalso
    have h1 := val_lt32 (dg_dig 115792089237316195423570985008687907853269984665640564039457584007913129639936)
    rw [dg_val] at h1
    have h2 : (4294967296 : Nat) ^ (dg 115792089237316195423570985008687907853269984665640564039457584007913129639936).length ≤ 4294967296 ^ 8 := Nat.pow_le_pow_right (by omega) (by omega)
    have h3 : ((4294967296 : Int)) ^ (dg 115792089237316195423570985008687907853269984665640564039457584007913129639936).length = ((4294967296 ^ (dg 115792089237316195423570985008687907853269984665640564039457584007913129639936).length : Nat) : Int) := by simp
    rw [h3] at h1
    have h4 : (4294967296 : Nat) ^ 8 = 115792089237316195423570985008687907853269984665640564039457584007913129639936 := by decide
    omega
  · exact h
end Go.Proofs.YtaibemhdfhchfaaGreat

/- Eight digits as a number of 256 bits. -/
namespace Go.Proofs.YtaibemhdfhchfaaGreat
open Go

theorem or_join2 {c d : Int} (hc0 : 0 ≤ c) (hc : c < 4294967296) (hd : 0 ≤ d) (hd2 : d < 4294967296) : bits .or .u64 (d * 4294967296) c = d * 4294967296 + c := by
  have h := or_join (c := c) (d := d) (k := 32) hc0 (by simpa using hc) hd (by simp; omega) (by omega)
  have e : (2 : Int) ^ 32 = 4294967296 := rfl
  rw [e] at h
  rw [u64_or _ _ (by omega) (by omega) hc0 (by omega), Nat.or_comm, ← u64_or _ _ hc0 (by omega) (by omega) (by omega), h]
  omega
/-- A row's value by its first eight digits, the others being none. -/
theorem val_8 {l : List Int} (hd : Dig 4294967296 l) (h : val 4294967296 l < 115792089237316195423570985008687907853269984665640564039457584007913129639936) :
    val 4294967296 l = uval (gt l 7 * 4294967296 + gt l 6) (gt l 5 * 4294967296 + gt l 4) (gt l 3 * 4294967296 + gt l 2) (gt l 1 * 4294967296 + gt l 0) := by
  have e0 : val 4294967296 l = val 4294967296 (l.take 8) + (4294967296 : Int) ^ 8 * val 4294967296 (l.drop 8) := by
    by_cases h8 : 8 ≤ l.length
    · have := val_append (B := 4294967296) (l.take 8) (l.drop 8)
      rw [List.take_append_drop] at this
      rw [this]
      simp [Nat.min_eq_left h8]
    · rw [List.take_of_length_le (by omega), List.drop_of_length_le (by omega)]; simp [val]
  have h1 := val_nonneg (hd.drop 8)
  have h2 := val_nonneg (hd.take 8)
  have e8 : (4294967296 : Int) ^ 8 = 115792089237316195423570985008687907853269984665640564039457584007913129639936 := by decide
  rw [e8] at e0
  have h3 : val 4294967296 (l.drop 8) = 0 := by omega
  rw [e0, h3]
  have t := fun i => val_take32 l i
  rw [t 7, t 6, t 5, t 4, t 3, t 2, t 1, t 0]
  simp only [List.take_zero, val, uval]
  omega
theorem row7_top : (dg 57896044618658097711785492504343953926634992332820282019728792003956564819968).length ≤ 8 := digs_length_le (by omega) 8 _ (by decide)
end Go.Proofs.YtaibemhdfhchfaaGreat

/- Division bit by bit, as the reference reckons it. -/
namespace Go.Proofs.YtaibemhdfhchfaaGreat
open Go

theorem pow2_pos (k : Nat) : (0 : Int) < 2 ^ k := Int.pow_pos (by omega)
theorem pow2_cast (k : Nat) : ((2 ^ k : Nat) : Int) = (2 : Int) ^ k := by simp
theorem pow2_32 (q : Nat) : (4294967296 : Int) ^ q = 2 ^ (32 * q) := by rw [Int.pow_mul]; rfl
theorem shl_val (v : Int) (i : Nat) : (4294967296 : Int) ^ (i / 32) * (v * 2 ^ (i % 32)) = v * 2 ^ i := by
  have e : (2 : Int) ^ i = 2 ^ (32 * (i / 32)) * 2 ^ (i % 32) := by rw [← Int.pow_add]; congr 1; omega
  rw [pow2_32, e]; grind
/-- A bit that is not set yet. -/
theorem u32_or_bit {x : Int} {k : Nat} (h0 : 0 ≤ x) (h1 : x < 4294967296) (hk : k < 32) (hm : x % 2 ^ (k + 1) = 0) : bits .or .u32 x (2 ^ k) = x + 2 ^ k ∧ x + 2 ^ k < 4294967296 ∧ (2 : Int) ^ k < 4294967296 := by
  have hp := pow2_pos k
  have e32 : (4294967296 : Int) = 2 ^ (31 - k) * 2 ^ (k + 1) := by rw [← Int.pow_add]; have : 31 - k + (k + 1) = 32 := by omega
                                                                   rw [this]; rfl
  have hs : (2 : Int) ^ (k + 1) = 2 ^ k * 2 := Int.pow_succ _ _
  have hp1 := pow2_pos (k + 1)
  have hle : x + 2 ^ (k + 1) ≤ 4294967296 := by
    obtain ⟨m, hm'⟩ := Int.dvd_of_emod_eq_zero hm
    have h2 : m < 2 ^ (31 - k) := by
      rcases Int.lt_or_le m (2 ^ (31 - k)) with h | h
      · exact h
      · exfalso
        have := Int.mul_le_mul_of_nonneg_left h (show (0 : Int) ≤ 2 ^ (k + 1) by omega)
        rw [Int.mul_comm (2 ^ (k + 1)) (2 ^ (31 - k)), ← e32, ← hm'] at this
        omega
    have := Int.mul_le_mul_of_nonneg_left (show m + 1 ≤ 2 ^ (31 - k) by omega) (show (0 : Int) ≤ 2 ^ (k + 1) by omega)
    rw [Int.mul_comm (2 ^ (k + 1)) (2 ^ (31 - k)), ← e32, Int.mul_add, ← hm'] at this
    omega
  refine ⟨?_, by omega, by omega⟩
  rw [u32_or x _ h0 h1 (by omega) (by omega)]
  obtain ⟨X, rfl⟩ := Int.eq_ofNat_of_zero_le h0
  have e : ((2 : Int) ^ k).toNat = 2 ^ k := by rw [← pow2_cast, Int.toNat_natCast]
  have hm2 : X % 2 ^ (k + 1) = 0 := by
    have : ((X % 2 ^ (k + 1) : Nat) : Int) = 0 := by rw [Int.natCast_emod, pow2_cast]; exact hm
    omega
  rw [e, Int.toNat_natCast, nat_join (k + 1) X (2 ^ k) hm2 (Nat.pow_lt_pow_right (by omega) (by omega))]
  simp

def QLow (q : List Int) (i : Nat) : Prop := (∀ j, j < i / 32 → gt q j = 0) ∧ gt q (i / 32) % 2 ^ (i % 32) = 0
theorem QLow.bit {q : List Int} {i : Nat} (h : QLow q (i + 1)) : (∀ j, j < i / 32 → gt q j = 0) ∧ gt q (i / 32) % 2 ^ (i % 32 + 1) = 0 := by
  obtain ⟨h1, h2⟩ := h
  refine ⟨fun j hj => h1 j (by omega), ?_⟩
  by_cases h : i % 32 = 31
  · have := h1 (i / 32) (by omega)
    rw [this]; simp
  · have e1 : (i + 1) / 32 = i / 32 := by omega
    have e2 : (i + 1) % 32 = i % 32 + 1 := by omega
    rwa [e1, e2] at h2
theorem mod_half {x : Int} {k : Nat} (h : x % 2 ^ (k + 1) = 0) : x % 2 ^ k = 0 := by
  obtain ⟨m, hm⟩ := Int.dvd_of_emod_eq_zero h
  refine Int.emod_eq_zero_of_dvd ⟨2 * m, ?_⟩
  rw [hm, Int.pow_succ]; grind
structure DvS (A D : Int) (q : List Int) (R : Int) (i : Nat) : Prop where
  dig : Dig 4294967296 q
  low : QLow q i
  eq : A = val 4294967296 q * D + R
  nn : 0 ≤ R
  lt : R < D * 2 ^ i
theorem DvS.skip {A D R : Int} {q : List Int} {i : Nat} (h : DvS A D q R (i + 1)) (hl : R < D * 2 ^ i) : DvS A D q R i :=
  ⟨h.dig, ⟨h.low.bit.1, mod_half h.low.bit.2⟩, h.eq, h.nn, hl⟩
theorem DvS.or {A D R : Int} {q : List Int} {i : Nat} (h : DvS A D q R (i + 1)) : bits .or .u32 (gt q (i / 32)) (2 ^ (i % 32)) = gt q (i / 32) + 2 ^ (i % 32) ∧ gt q (i / 32) + 2 ^ (i % 32) < 4294967296 ∧ (2 : Int) ^ (i % 32) < 4294967296 :=
  u32_or_bit (h.dig.gt (by omega) _).1 (h.dig.gt (by omega) _).2 (by omega) h.low.bit.2
theorem DvS.take {A D R : Int} {q : List Int} {i : Nat} (h : DvS A D q R (i + 1)) (hl : D * 2 ^ i ≤ R) (hi : i / 32 < q.length) : DvS A D (q.set (i / 32) (gt q (i / 32) + 2 ^ (i % 32))) (R - D * 2 ^ i) i := by
  have g := h.dig.gt (by omega) (i / 32)
  have o := h.or
  have hp := pow2_pos (i % 32)
  refine ⟨h.dig.set _ (by omega) (by omega), ⟨fun j hj => ?_, ?_⟩, ?_, by omega, ?_⟩
  · rw [gt_set_ne (by omega)]; exact h.low.bit.1 j hj
  · rw [gt_set hi]
    rw [Int.add_emod_right]; exact mod_half h.low.bit.2
  · have e1 := h.eq
    have e2 := shl_val 1 i
    rw [val_setC hi]
    have e3 : gt q (i / 32) + 2 ^ (i % 32) - gt q (i / 32) = 2 ^ (i % 32) := by omega
    rw [e3]
    simp only [Int.one_mul] at e2
    rw [e2]; grind
  · have := h.lt
    rw [Int.pow_succ] at this
    have e : D * (2 ^ i * 2) = D * 2 ^ i + D * 2 ^ i := by grind
    omega
theorem DvS.start {a d n : Nat} (hd : d ≠ 0) (hn : bitLen a = bitLen d + n) : DvS a d (List.replicate (n / 32 + 1) 0) a (n + 1) := by
  have hg : ∀ m j, gt (List.replicate m (0 : Int)) j = 0 := fun m j => by
    unfold gt; rw [List.getElem?_replicate]; split <;> rfl
  refine ⟨Dig.replicate _ (by omega) (by omega), ⟨fun j _ => hg _ _, by rw [hg]; simp⟩, by rw [val_replicate]; simp, by omega, ?_⟩
  have h1 : a < 2 ^ (bitLen d + n) := bitLen_le.1 (by omega)
  have h2 : 2 ^ (bitLen d - 1) ≤ d := by
    rcases Nat.lt_or_ge d (2 ^ (bitLen d - 1)) with h | h
    · have h3 := bitLen_le.2 h
      have : bitLen d ≠ 0 := fun h4 => by
        have := bitLen_le.1 (show bitLen d ≤ 0 by omega)
        simp at this; omega
      omega
    · exact h
  have h5 : bitLen d ≠ 0 := fun h4 => by
    have := bitLen_le.1 (show bitLen d ≤ 0 by omega)
    simp at this; omega
  have h3 : 2 ^ (bitLen d - 1) * 2 ^ (n + 1) ≤ d * 2 ^ (n + 1) := Nat.mul_le_mul_right _ h2
  rw [← Nat.pow_add] at h3
  have e : bitLen d - 1 + (n + 1) = bitLen d + n := by omega
  rw [e] at h3
  have h4 : a < d * 2 ^ (n + 1) := by omega
  have h6 : (a : Int) < ((d * 2 ^ (n + 1) : Nat) : Int) := by omega
  rw [Int.natCast_mul, pow2_cast] at h6
  exact h6
theorem DvS.done {a d : Nat} {q : List Int} {R : Int} (h : DvS a d q R 0) : val 4294967296 q = ((a / d : Nat) : Int) ∧ R = ((a % d : Nat) : Int) := by
  have h1 := h.eq; have h2 := h.nn; have h3 := h.lt
  simp only [Int.pow_zero, Int.mul_one] at h3
  have h4 := val_nonneg h.dig
  obtain ⟨Q, hQ⟩ := Int.eq_ofNat_of_zero_le h4
  obtain ⟨r, rfl⟩ := Int.eq_ofNat_of_zero_le h2
  rw [hQ] at h1 ⊢
  have e : a = d * Q + r := by
    have : (a : Int) = ((d * Q + r : Nat) : Int) := by rw [h1]; push_cast; grind
    omega
  have hr : r < d := by omega
  refine ⟨?_, ?_⟩
  · congr 1; rw [e]
    rw [Nat.mul_add_div (by omega), Nat.div_eq_of_lt hr]; rfl
  · congr 1; rw [e, Nat.mul_add_mod, Nat.mod_eq_of_lt hr]
theorem bitLen_ne {d : Nat} (hd : d ≠ 0) : 0 < bitLen d := by
  rcases Nat.eq_zero_or_pos (bitLen d) with h | h
  · have := bitLen_le.1 (show bitLen d ≤ 0 by omega)
    simp at this; omega
  · exact h
theorem bitLen_lt {a d : Nat} (h : bitLen a < bitLen d) : a < d := by
  rcases Nat.lt_or_ge a d with h2 | h2
  · exact h2
  · have h3 : a < 2 ^ bitLen a := bitLen_le.1 (Nat.le_refl _)
    have := bitLen_le.2 (show d < 2 ^ bitLen a by omega)
    omega
theorem dg_len_mono {a b : Int} (h : a.natAbs ≤ b.natAbs) : (dg a).length ≤ (dg b).length := by
  rcases Nat.lt_or_ge (dg b).length (dg a).length with h1 | h1
  · have := can_len_lt (B := 4294967296) (by omega) (dg_dig b) (dg_dig a) (dg_can a) h1
    rw [dg_val, dg_val] at this; omega
  · exact h1
end Go.Proofs.YtaibemhdfhchfaaGreat

/- Division of 128 bits by 64, in halves. -/
namespace Go.Proofs.YtaibemhdfhchfaaGreat
open Go

structure DvH (y1 y0 u un q r : Int) : Prop where
  e : u = q * y1 + r
  r0 : 0 ≤ r
  q0 : 0 ≤ q
  qm : q ≤ 4294967297
  lt : u * 4294967296 + un < (q + 1) * (y1 * 4294967296 + y0)
theorem DvH.start {y1 y0 u un : Int} (hy1 : 2147483648 ≤ y1) (hy0 : 0 ≤ y0) (hy : y0 < 4294967296) (hu0 : 0 ≤ u) (hu : u < y1 * 4294967296 + y0) (hun : un < 4294967296) :
    DvH y1 y0 u un (u / y1) (u - u / y1 * y1) := by
  have h1 := Int.mul_ediv_add_emod u y1
  have h2 := Int.emod_nonneg u (show y1 ≠ 0 by omega)
  have h3 := Int.emod_lt_of_pos u (show 0 < y1 by omega)
  have h4 : 0 ≤ u / y1 := Int.ediv_nonneg hu0 (by omega)
  generalize u / y1 = q at *
  generalize u % y1 = r at *
  have e : y1 * q = q * y1 := Int.mul_comm _ _
  refine ⟨by omega, by omega, h4, ?_, ?_⟩
  · rcases Int.lt_or_le q 4294967298 with h | h
    · omega
    · exfalso
      have := Int.mul_le_mul_of_nonneg_right h (show 0 ≤ y1 by omega)
      omega
  · have e2 : (q + 1) * (y1 * 4294967296 + y0) = q * y1 * 4294967296 + q * y0 + y1 * 4294967296 + y0 := by grind
    have e3 : 0 ≤ q * y0 := Int.mul_nonneg h4 hy0
    rw [e2]; omega
theorem DvH.pos {y1 y0 u un q r : Int} (h : DvH y1 y0 u un q r) (hun : 0 ≤ un) (hc : 4294967296 ≤ q ∨ 4294967296 * r + un < q * y0) : 1 ≤ q := by
  rcases hc with hc | hc
  · omega
  · have := h.r0; have := h.q0
    rcases Int.lt_or_le q 1 with h1 | h1
    · have : q = 0 := by omega
      subst this; omega
    · exact h1
theorem DvH.step {y1 y0 u un q r : Int} (h : DvH y1 y0 u un q r) (hy1 : 2147483648 ≤ y1) (hy0 : 0 ≤ y0) (hun : 0 ≤ un) (hun2 : un < 4294967296) (hu : u < y1 * 4294967296 + y0) (hc : 4294967296 ≤ q ∨ 4294967296 * r + un < q * y0) :
    DvH y1 y0 u un (q - 1) (r + y1) := by
  have hp := h.pos hun hc
  have h1 := h.e; have h2 := h.r0; have h3 := h.qm
  refine ⟨by grind, by omega, by omega, by omega, ?_⟩
  have e : (q - 1 + 1) * (y1 * 4294967296 + y0) = q * y1 * 4294967296 + q * y0 := by grind
  rw [e]
  rcases hc with hc | hc
  · have := Int.mul_le_mul_of_nonneg_right hc (show 0 ≤ y1 * 4294967296 + y0 by omega)
    have e2 : q * (y1 * 4294967296 + y0) = q * y1 * 4294967296 + q * y0 := by grind
    omega
  · omega
theorem DvH.out {y1 y0 u un q r : Int} (h : DvH y1 y0 u un q r) (hy1 : 2147483648 ≤ y1) (hy0 : 0 ≤ y0) (hy : y0 < 4294967296) (hun : 0 ≤ un) (hun2 : un < 4294967296) (hu : u < y1 * 4294967296 + y0)
    (hc : (q < 4294967296 ∧ q * y0 ≤ 4294967296 * r + un) ∨ (4294967296 ≤ r ∧ q ≤ 4294967296)) :
    0 ≤ u * 4294967296 + un - q * (y1 * 4294967296 + y0) ∧ u * 4294967296 + un - q * (y1 * 4294967296 + y0) < y1 * 4294967296 + y0 ∧ q < 4294967296 := by
  have h1 := h.e; have h2 := h.r0; have h3 := h.lt
  have e : q * (y1 * 4294967296 + y0) = q * y1 * 4294967296 + q * y0 := by grind
  have e2 : (q + 1) * (y1 * 4294967296 + y0) = q * (y1 * 4294967296 + y0) + (y1 * 4294967296 + y0) := by grind
  rw [e2] at h3
  have hle : q * (y1 * 4294967296 + y0) ≤ u * 4294967296 + un := by
    rw [e]
    rcases hc with ⟨_, hc⟩ | ⟨hc, hc2⟩
    · omega
    · have := Int.mul_le_mul hc2 (show y0 ≤ 4294967295 by omega) hy0 (by omega)
      omega
  refine ⟨by omega, by omega, ?_⟩
  rcases Int.lt_or_le q 4294967296 with h4 | h4
  · exact h4
  · have := Int.mul_le_mul_of_nonneg_right h4 (show 0 ≤ y1 * 4294967296 + y0 by omega)
    omega
theorem div_of {N y Q R : Int} (h : N = Q * y + R) (h0 : 0 ≤ R) (h1 : R < y) : N / y = Q ∧ N % y = R := by
  have hy : y ≠ 0 := by omega
  subst h
  refine ⟨?_, ?_⟩
  · rw [Int.add_comm, Int.add_mul_ediv_right _ _ hy, Int.ediv_eq_zero_of_lt h0 h1]; omega
  · rw [Int.add_comm, Int.add_mul_emod_self_right]; exact Int.emod_eq_of_lt h0 h1
theorem dv_fin {N y p u un1 un0 q1 q0 R1 R0 : Int} (hp : 0 < p) (h1 : u * 4294967296 + un1 - q1 * (y * p) = R1) (h2 : R1 * 4294967296 + un0 - q0 * (y * p) = R0)
    (hN : N * p = (u * 4294967296 + un1) * 4294967296 + un0) (h0 : 0 ≤ R0) (hlt : R0 < y * p) : N / y = q1 * 4294967296 + q0 ∧ N % y = R0 / p := by
  have e : R0 = p * (N - (q1 * 4294967296 + q0) * y) := by grind
  have e2 : R0 / p = N - (q1 * 4294967296 + q0) * y := by rw [e]; exact Int.mul_ediv_cancel_left _ (by omega)
  rw [e2]
  generalize hR : N - (q1 * 4294967296 + q0) * y = R at *
  refine div_of (by grind) ?_ ?_
  · rcases Int.lt_or_le R 0 with h | h
    · exfalso
      have := Int.mul_neg_of_pos_of_neg hp h
      omega
    · exact h
  · rcases Int.lt_or_le R y with h | h
    · exact h
    · exfalso
      have := Int.mul_le_mul_of_nonneg_left h (show 0 ≤ p by omega)
      rw [Int.mul_comm p y] at this
      omega
theorem bitLen_top2 {y : Nat} (hy : y ≠ 0) : 2 ^ (bitLen y - 1) ≤ y ∧ y < 2 ^ bitLen y := by
  refine ⟨?_, bitLen_le.1 (Nat.le_refl _)⟩
  rcases Nat.lt_or_ge y (2 ^ (bitLen y - 1)) with h | h
  · have h3 := bitLen_le.2 h
    have := bitLen_ne hy
    omega
  · exact h
theorem or_join' {c d : Int} {k : Nat} (hc0 : 0 ≤ c) (hc : c < 2 ^ k) (hd : 0 ≤ d) (ht : d * 2 ^ k < 18446744073709551616) (hc2 : c < 18446744073709551616) : bits .or .u64 (d * 2 ^ k) c = d * 2 ^ k + c := by
  have hp := pow2_pos k
  have h0 : 0 ≤ d * 2 ^ k := Int.mul_nonneg hd (by omega)
  rw [u64_or _ _ h0 ht hc0 hc2, Nat.or_comm, ← u64_or _ _ hc0 hc2 h0 ht, or_join hc0 hc hd ht hc2]; omega
theorem dv_norm {hi lo : Int} {y : Nat} (h0 : 0 ≤ hi) (h1 : hi < y) (hl0 : 0 ≤ lo) (hl : lo < 18446744073709551616) (hy : y < 18446744073709551616) :
    ∃ (S : Nat) (p Y U X : Int), bitLen y + S = 64 ∧ S ≤ 63 ∧ p = 2 ^ S ∧ 0 < p ∧ (y : Int) * 2 ^ S = Y ∧ Y = y * p ∧ 9223372036854775808 ≤ Y ∧ Y < 18446744073709551616 ∧ 0 ≤ hi * 2 ^ S ∧ hi * 2 ^ S < 18446744073709551616 ∧
      bits .or .u64 (hi * 2 ^ S) (lo / 2 ^ (64 - S)) = U ∧ 0 ≤ U ∧ U < Y ∧ lo * 2 ^ S % 18446744073709551616 = X ∧ (hi * 18446744073709551616 + lo) * p = U * 18446744073709551616 + X := by
  have hy0 : y ≠ 0 := by omega
  have hb := bitLen_ne hy0
  have hb2 : bitLen y ≤ 64 := bitLen_le.2 (by omega)
  obtain ⟨t1, t2⟩ := bitLen_top2 hy0
  generalize hS : 64 - bitLen y = S
  have e1 : bitLen y + S = 64 := by omega
  have hpn := Nat.two_pow_pos S
  have y1 : 2 ^ (bitLen y - 1) * 2 ^ S ≤ y * 2 ^ S := Nat.mul_le_mul_right _ t1
  have y2 : y * 2 ^ S < 2 ^ bitLen y * 2 ^ S := Nat.mul_lt_mul_of_pos_right t2 hpn
  rw [← Nat.pow_add, show bitLen y - 1 + S = 63 by omega] at y1
  rw [← Nat.pow_add, e1] at y2
  have ey : ((y * 2 ^ S : Nat) : Int) = (y : Int) * 2 ^ S := by rw [Int.natCast_mul, pow2_cast]
  have hp := pow2_pos S
  have hT := pow2_pos (64 - S)
  have hpT : (2 : Int) ^ S * 2 ^ (64 - S) = 18446744073709551616 := by rw [← Int.pow_add, show S + (64 - S) = 64 by omega]; rfl
  have hY1 : 9223372036854775808 ≤ (y : Int) * 2 ^ S := by rw [← ey]; omega
  have hY2 : (y : Int) * 2 ^ S < 18446744073709551616 := by rw [← ey]; omega
  have hhi : 0 ≤ hi * 2 ^ S := Int.mul_nonneg h0 (by omega)
  have hhi2 : (hi + 1) * 2 ^ S ≤ y * 2 ^ S := Int.mul_le_mul_of_nonneg_right (by omega) (by omega)
  have d1 := Int.mul_ediv_add_emod lo (2 ^ (64 - S))
  have d2 := Int.emod_nonneg lo (show (2 : Int) ^ (64 - S) ≠ 0 by omega)
  have d3 := Int.emod_lt_of_pos lo hT
  have d4 : 0 ≤ lo / 2 ^ (64 - S) := Int.ediv_nonneg hl0 (by omega)
  have d5 : lo / 2 ^ (64 - S) < 2 ^ S := Int.ediv_lt_of_lt_mul hT (by rw [hpT]; exact hl)
  have ee : (hi + 1) * 2 ^ S = hi * 2 ^ S + 2 ^ S := by grind
  have hor := or_join' (k := S) d4 d5 h0 (by omega) (by omega)
  refine ⟨S, 2 ^ S, _, _, _, e1, by omega, rfl, hp, rfl, rfl, hY1, hY2, hhi, by omega, hor, by omega, by omega, rfl, ?_⟩
  generalize lo / 2 ^ (64 - S) = a at *
  generalize lo % 2 ^ (64 - S) = b at *
  generalize (2 : Int) ^ (64 - S) = T at *
  generalize (2 : Int) ^ S = p at *
  have f1 : lo * p = a * 18446744073709551616 + b * p := by rw [← hpT, ← d1]; grind
  have f2 : b * p < 18446744073709551616 := by
    have := Int.mul_lt_mul_of_pos_right d3 hp
    rw [Int.mul_comm T p, hpT] at this; exact this
  have f3 : 0 ≤ b * p := Int.mul_nonneg d2 (by omega)
  have f4 : lo * p % 18446744073709551616 = b * p := by rw [f1]; omega
  rw [f4, Int.add_mul, f1]; grind
end Go.Proofs.YtaibemhdfhchfaaGreat

/- Division of words, a word of the quotient after the other. -/
namespace Go.Proofs.YtaibemhdfhchfaaGreat
open Go

theorem val_gt_drop (l : List Int) (i : Nat) : val 18446744073709551616 (l.drop i) = gt l i + 18446744073709551616 * val 18446744073709551616 (l.drop (i + 1)) := by
  by_cases h : i < l.length
  · rw [List.drop_eq_getElem_cons h]
    have e : gt l i = l[i] := by simp [gt, h]
    rw [e]; simp only [val]; rfl
  · have e : gt l i = 0 := by unfold gt; rw [List.getElem?_eq_none (by omega)]; rfl
    rw [List.drop_of_length_le (by omega), List.drop_of_length_le (by omega), e]; simp [val]
theorem val_split (l : List Int) (i : Nat) : val 18446744073709551616 l = val 18446744073709551616 (l.take i) + (18446744073709551616 : Int) ^ i * val 18446744073709551616 (l.drop i) := by
  by_cases h : i ≤ l.length
  · have := val_append (B := 18446744073709551616) (l.take i) (l.drop i)
    rw [List.take_append_drop, List.length_take, Nat.min_eq_left h] at this
    exact this
  · rw [List.take_of_length_le (by omega), List.drop_of_length_le (by omega)]; simp [val]
theorem val_drop_split (l : List Int) (j i : Nat) : val 18446744073709551616 (l.drop j) = val 18446744073709551616 ((l.drop j).take i) + (18446744073709551616 : Int) ^ i * val 18446744073709551616 (l.drop (j + i)) := by
  have := val_split (l.drop j) i
  rw [List.drop_drop] at this; exact this
theorem powB_pos (i : Nat) : (0 : Int) < 18446744073709551616 ^ i := Int.pow_pos (by omega)
theorem val_ltB {l : List Int} (h : Dig 18446744073709551616 l) {n : Nat} (hn : l.length ≤ n) : val 18446744073709551616 l < (18446744073709551616 : Int) ^ n := by
  have h1 := val_lt64 h
  have h2 : (18446744073709551616 : Nat) ^ l.length ≤ 18446744073709551616 ^ n := Nat.pow_le_pow_right (by omega) hn
  have h3 : ∀ k, (18446744073709551616 : Int) ^ k = ((18446744073709551616 ^ k : Nat) : Int) := fun k => by simp
  rw [h3] at h1 ⊢; omega
/-- A row of words of which a window has been changed. -/
structure Win (u0 u : List Int) (j n : Nat) (X : Int) : Prop where
  dig : Dig 18446744073709551616 u
  len : u.length = u0.length
  tk : u.take j = u0.take j
  dr : u.drop (j + n + 1) = u0.drop (j + n + 1)
  eq : val 18446744073709551616 u = val 18446744073709551616 u0 + (18446744073709551616 : Int) ^ j * X
theorem Win.refl {u : List Int} (h : Dig 18446744073709551616 u) (j n : Nat) : Win u u j n 0 := ⟨h, rfl, rfl, rfl, by simp⟩
theorem Win.set {u0 u : List Int} {j n i : Nat} {X X' v : Int} (h : Win u0 u j n X) (hi : i ≤ n) (hk : j + i < u.length) (h0 : 0 ≤ v) (h1 : v < 18446744073709551616)
    (hX : X' = X + (18446744073709551616 : Int) ^ i * (v - gt u (j + i))) : Win u0 (u.set (j + i) v) j n X' := by
  refine ⟨h.dig.set _ h0 h1, by simp [h.len], ?_, ?_, ?_⟩
  · rw [List.take_set_of_le (by omega)]; exact h.tk
  · rw [List.drop_set_of_lt (by omega)]; exact h.dr
  · rw [val_setB hk, h.eq, hX, Int.pow_add]; grind
theorem Win.cast {u0 u : List Int} {j n : Nat} {X X' : Int} (h : Win u0 u j n X) (e : X' = X) : Win u0 u j n X' := e ▸ h
theorem Win.val {u0 u : List Int} {j n : Nat} {X : Int} (h : Win u0 u j n X) : val 18446744073709551616 (u.drop j) = val 18446744073709551616 (u0.drop j) + X := by
  have h1 := h.eq
  rw [val_split u j, val_split u0 j, h.tk] at h1
  have hp := powB_pos j
  have h2 : (18446744073709551616 : Int) ^ j * Go.Proofs.YtaibemhdfhchfaaGreat.val 18446744073709551616 (u.drop j) = (18446744073709551616 : Int) ^ j * (Go.Proofs.YtaibemhdfhchfaaGreat.val 18446744073709551616 (u0.drop j) + X) := by grind
  exact Int.eq_of_mul_eq_mul_left (by omega) h2
theorem Win.lt {u0 u : List Int} {j n : Nat} {X : Int} (h : Win u0 u j n X) (hz : Go.Proofs.YtaibemhdfhchfaaGreat.val 18446744073709551616 (u0.drop (j + n + 1)) = 0) :
    0 ≤ Go.Proofs.YtaibemhdfhchfaaGreat.val 18446744073709551616 (u0.drop j) + X ∧ Go.Proofs.YtaibemhdfhchfaaGreat.val 18446744073709551616 (u0.drop j) + X < (18446744073709551616 : Int) ^ (n + 1) := by
  rw [← h.val]
  refine ⟨val_nonneg (h.dig.drop j), ?_⟩
  have h1 := val_drop_split u j (n + 1)
  have e : j + (n + 1) = j + n + 1 := by omega
  rw [e, h.dr, hz] at h1
  have h2 := val_ltB ((h.dig.drop j).take (n + 1)) (n := n + 1) (by simp; omega)
  rw [Int.mul_zero] at h1; omega
/-- Ahead of the step at j. -/
structure Kn (A V : Int) (u out : List Int) (j : Nat) : Prop where
  dig : Dig 18446744073709551616 u
  eq : A = val 18446744073709551616 u + V * val 18446744073709551616 out
  hi : val 18446744073709551616 (u.drop j) < V
  dout : Dig 18446744073709551616 out
  oz : ∀ i, i < j → gt out i = 0
theorem Kn.top {A V : Int} {u out : List Int} {j n : Nat} (h : Kn A V u out (j + 1)) (hV : V ≤ (18446744073709551616 : Int) ^ n) : val 18446744073709551616 (u.drop (j + n + 1)) = 0 := by
  have h1 := val_drop_split u (j + 1) n
  have h2 := h.hi
  have h3 := val_nonneg ((h.dig.drop (j + 1)).take n)
  have h4 := val_nonneg (h.dig.drop (j + 1 + n))
  have e : j + 1 + n = j + n + 1 := by omega
  rw [e] at h1 h4
  rcases Int.lt_or_le 0 (val 18446744073709551616 (u.drop (j + n + 1))) with h5 | h5
  · exfalso
    have := Int.mul_le_mul_of_nonneg_left (show 1 ≤ val 18446744073709551616 (u.drop (j + n + 1)) by omega) (show 0 ≤ (18446744073709551616 : Int) ^ n from Int.le_of_lt (powB_pos n))
    rw [Int.mul_one] at this; omega
  · omega
theorem Kn.wide {A V : Int} {u out : List Int} {j : Nat} (h : Kn A V u out (j + 1)) : val 18446744073709551616 (u.drop j) < 18446744073709551616 * V := by
  rw [val_gt_drop]
  have := h.dig.gt (by omega) j
  have := h.hi
  omega
theorem Kn.step {A V q : Int} {u u' out : List Int} {j n : Nat} (h : Kn A V u out (j + 1)) (w : Win u u' j n (-(q * V))) (hq0 : 0 ≤ q) (hq : q < 18446744073709551616) (hlt : val 18446744073709551616 (u.drop j) < (q + 1) * V) (hj : j < out.length) :
    Kn A V u' (out.set j q) j := by
  refine ⟨w.dig, ?_, ?_, h.dout.set _ hq0 hq, fun i hi => ?_⟩
  · have h1 := h.eq; have h2 := w.eq
    rw [val_setB hj, h.oz j (by omega), h2]; grind
  · rw [w.val]
    have : (q + 1) * V = q * V + V := by grind
    omega
  · rw [gt_set_ne (by omega)]; exact h.oz i (by omega)
/-- A guess of a word of the quotient. -/
structure Qh (W V u1 u2 v1 q r : Int) : Prop where
  e : u1 * 18446744073709551616 + u2 = q * v1 + r
  r0 : 0 ≤ r
  rB : r < 18446744073709551616
  q0 : 0 ≤ q
  qB : q < 18446744073709551616
  lt : W < (q + 1) * V
theorem win_lt {u : List Int} (d : Dig 18446744073709551616 u) {j m : Nat} (hz : val 18446744073709551616 (u.drop (j + (m + 2) + 1)) = 0) :
    val 18446744073709551616 (u.drop j) < ((gt u (j + m + 2) * 18446744073709551616 + gt u (j + m + 1)) * 18446744073709551616 + gt u (j + m) + 1) * (18446744073709551616 : Int) ^ m := by
  have h1 := val_drop_split u j m
  have h2 := val_gt_drop u (j + m)
  have h3 := val_gt_drop u (j + m + 1)
  have h4 := val_gt_drop u (j + m + 1 + 1)
  have e : j + m + 1 + 1 + 1 = j + (m + 2) + 1 := by omega
  have e2 : j + m + 1 + 1 = j + m + 2 := by omega
  rw [e, hz, e2] at h4
  rw [e2] at h3
  have h5 := val_ltB ((d.drop j).take m) (n := m) (by simp; omega)
  generalize val 18446744073709551616 (u.drop j) = W at *
  generalize val 18446744073709551616 (List.take m (u.drop j)) = T at *
  generalize val 18446744073709551616 (u.drop (j + m)) = X1 at *
  generalize val 18446744073709551616 (u.drop (j + m + 1)) = X2 at *
  generalize val 18446744073709551616 (u.drop (j + m + 2)) = X3 at *
  generalize (18446744073709551616 : Int) ^ m = P at *
  have e3 : X1 = (gt u (j + m + 2) * 18446744073709551616 + gt u (j + m + 1)) * 18446744073709551616 + gt u (j + m) := by omega
  rw [← e3, h1]; grind
theorem top_ge {v : List Int} (d : Dig 18446744073709551616 v) {m : Nat} : (gt v (m + 1) * 18446744073709551616 + gt v m) * (18446744073709551616 : Int) ^ m ≤ val 18446744073709551616 v := by
  have h1 := val_split v m
  have h2 := val_gt_drop v m
  have h3 := val_gt_drop v (m + 1)
  have h4 := val_nonneg (d.take m)
  have h5 := val_nonneg (d.drop (m + 1 + 1))
  have hp := powB_pos m
  generalize val 18446744073709551616 v = V at *
  generalize val 18446744073709551616 (v.take m) = T at *
  generalize val 18446744073709551616 (v.drop m) = X1 at *
  generalize val 18446744073709551616 (v.drop (m + 1)) = X2 at *
  generalize val 18446744073709551616 (v.drop (m + 1 + 1)) = X3 at *
  generalize (18446744073709551616 : Int) ^ m = P at *
  have e : gt v (m + 1) * 18446744073709551616 + gt v m ≤ X1 := by omega
  have := Int.mul_le_mul_of_nonneg_right e (show 0 ≤ P by omega)
  have e2 : X1 * P = P * X1 := Int.mul_comm _ _
  omega
theorem Qh.start {W V u1 u2 u3 v1 v2 P : Int} (hP : 0 < P) (hW : W < ((u1 * 18446744073709551616 + u2) * 18446744073709551616 + u3 + 1) * P) (hV : (v1 * 18446744073709551616 + v2) * P ≤ V)
    (h1 : 0 ≤ u1) (h1v : u1 < v1) (hv1 : v1 < 18446744073709551616) (h2 : 0 ≤ u2) (h2B : u2 < 18446744073709551616) (h3 : u3 < 18446744073709551616) (hv2 : 0 ≤ v2) :
    Qh W V u1 u2 v1 ((u1 * 18446744073709551616 + u2) / v1) ((u1 * 18446744073709551616 + u2) % v1) := by
  have e1 := Int.mul_ediv_add_emod (u1 * 18446744073709551616 + u2) v1
  have e2 := Int.emod_nonneg (u1 * 18446744073709551616 + u2) (show v1 ≠ 0 by omega)
  have e3 := Int.emod_lt_of_pos (u1 * 18446744073709551616 + u2) (show 0 < v1 by omega)
  have e4 : 0 ≤ (u1 * 18446744073709551616 + u2) / v1 := Int.ediv_nonneg (by omega) (by omega)
  have e5 : (u1 * 18446744073709551616 + u2) / v1 < 18446744073709551616 := Int.ediv_lt_of_lt_mul (by omega) (by omega)
  generalize (u1 * 18446744073709551616 + u2) / v1 = q at *
  generalize (u1 * 18446744073709551616 + u2) % v1 = r at *
  have ec : v1 * q = q * v1 := Int.mul_comm _ _
  refine ⟨by omega, e2, by omega, e4, e5, ?_⟩
  have f1 : (u1 * 18446744073709551616 + u2) * 18446744073709551616 + u3 + 1 ≤ (q + 1) * (v1 * 18446744073709551616 + v2) := by
    have g1 : (q + 1) * (v1 * 18446744073709551616 + v2) = q * v1 * 18446744073709551616 + v1 * 18446744073709551616 + q * v2 + v2 := by grind
    have g2 : 0 ≤ q * v2 := Int.mul_nonneg e4 hv2
    rw [g1]; omega
  have f2 := Int.mul_le_mul_of_nonneg_right f1 (show 0 ≤ P by omega)
  have f3 := Int.mul_le_mul_of_nonneg_left hV (show 0 ≤ q + 1 by omega)
  rw [← Int.mul_assoc] at f3
  omega
theorem Qh.step {W V u1 u2 u3 v1 v2 P q r : Int} (h : Qh W V u1 u2 v1 q r) (hP : 0 < P) (hW : W < ((u1 * 18446744073709551616 + u2) * 18446744073709551616 + u3 + 1) * P) (hV : (v1 * 18446744073709551616 + v2) * P ≤ V)
    (h3 : 0 ≤ u3) (hc : r * 18446744073709551616 + u3 < q * v2) : 1 ≤ q ∧ W < (q - 1 + 1) * V ∧ u1 * 18446744073709551616 + u2 = (q - 1) * v1 + (r + v1) := by
  have e1 := h.e; have e2 := h.r0; have e3 := h.q0
  refine ⟨?_, ?_, by grind⟩
  · rcases Int.lt_or_le q 1 with h1 | h1
    · have : q = 0 := by omega
      subst this; omega
    · exact h1
  · have f1 : (u1 * 18446744073709551616 + u2) * 18446744073709551616 + u3 + 1 ≤ q * (v1 * 18446744073709551616 + v2) := by
      have g1 : q * (v1 * 18446744073709551616 + v2) = q * v1 * 18446744073709551616 + q * v2 := by grind
      rw [g1]; omega
    have f2 := Int.mul_le_mul_of_nonneg_right f1 (show 0 ≤ P by omega)
    have f3 := Int.mul_le_mul_of_nonneg_left hV e3
    rw [← Int.mul_assoc] at f3
    have e : q - 1 + 1 = q := by omega
    rw [e]; omega
end Go.Proofs.YtaibemhdfhchfaaGreat

/- A row of words moved up by bits; moved down again. -/
namespace Go.Proofs.YtaibemhdfhchfaaGreat
open Go Go.RowKit

def shR (d : List Int) (p : Int) : Nat → List Int × Int
  | 0 => ([], 0)
  | i + 1 => ((shR d p i).1 ++ [((shR d p i).2 + gt d i * p) % 18446744073709551616], ((shR d p i).2 + gt d i * p) / 18446744073709551616)
theorem shR_spec {d : List Int} (dd : Dig 18446744073709551616 d) {p : Int} (hp : 1 ≤ p) : ∀ i, (shR d p i).1.length = i ∧ Dig 18446744073709551616 (shR d p i).1 ∧ 0 ≤ (shR d p i).2 ∧ (shR d p i).2 < p ∧
    val 18446744073709551616 (shR d p i).1 + (shR d p i).2 * (18446744073709551616 : Int) ^ i = val 18446744073709551616 (d.take i) * p
  | 0 => by simp [shR, val, Dig.nil]; omega
  | i + 1 => by
    obtain ⟨h1, h2, h3, h4, h5⟩ := shR_spec dd hp i
    have gd := dd.gt (by omega) i
    simp only [shR]
    generalize (shR d p i).2 = c at *
    generalize (shR d p i).1 = o at *
    have hm : gt d i * p ≤ 18446744073709551615 * p := Int.mul_le_mul_of_nonneg_right (by omega) (by omega)
    have hm0 : 0 ≤ gt d i * p := Int.mul_nonneg gd.1 (by omega)
    refine ⟨by simp [h1], h2.append (Dig.cons (by omega) (by omega) (Dig.nil _)), by omega, by omega, ?_⟩
    rw [val_append, val_take64, h1, Int.pow_succ]
    simp only [val]
    have := Int.emod_add_mul_ediv (c + gt d i * p) 18446744073709551616
    grind
/-- The row while it is made. -/
def shS (d : List Int) (p : Int) (i : Nat) : List Int := (shR d p i).1 ++ (shR d p i).2 :: List.replicate (d.length - i) 0
def shW (d : List Int) (p : Int) : List Int := shS d p d.length
theorem shS_len {d : List Int} (dd : Dig 18446744073709551616 d) {p : Int} (hp : 1 ≤ p) {i : Nat} (hi : i ≤ d.length) : (shS d p i).length = d.length + 1 := by
  have := (shR_spec dd hp i).1
  simp [shS, this]; omega
theorem shS_gt {d : List Int} (dd : Dig 18446744073709551616 d) {p : Int} (hp : 1 ≤ p) (i : Nat) : gt (shS d p i) i = (shR d p i).2 := by
  have := (shR_spec dd hp i).1
  unfold gt shS
  rw [List.getElem?_append_right (by omega), this, Nat.sub_self]; rfl
theorem shS_step {d : List Int} (dd : Dig 18446744073709551616 d) {p : Int} (hp : 1 ≤ p) {i : Nat} (hi : i < d.length) :
    ((shS d p i).set i (((shR d p i).2 + gt d i * p) % 18446744073709551616)).set (i + 1) (((shR d p i).2 + gt d i * p) / 18446744073709551616) = shS d p (i + 1) := by
  have h1 := (shR_spec dd hp i).1
  unfold shS
  simp only [shR]
  generalize (shR d p i).2 = c at *
  generalize (shR d p i).1 = o at *
  have e : d.length - i = (d.length - (i + 1)) + 1 := by omega
  rw [e, List.replicate_succ, List.set_append_right _ _ (by omega), h1, Nat.sub_self, List.set_cons_zero, List.set_append_right _ _ (by omega), h1]
  rw [show i + 1 - i = 1 by omega, List.set_cons_succ, List.set_cons_zero]
  simp
theorem shS_step0 {d : List Int} (dd : Dig 18446744073709551616 d) {p : Int} (hp : 1 ≤ p) {i : Nat} (hi : i < d.length) (hc : ((shR d p i).2 + gt d i * p) / 18446744073709551616 = 0) :
    (shS d p i).set i (((shR d p i).2 + gt d i * p) % 18446744073709551616) = shS d p (i + 1) := by
  have h1 := (shR_spec dd hp i).1
  unfold shS
  simp only [shR, hc]
  generalize (shR d p i).2 = c at *
  generalize (shR d p i).1 = o at *
  have e : d.length - i = (d.length - (i + 1)) + 1 := by omega
  rw [e, List.replicate_succ, List.set_append_right _ _ (by omega), h1, Nat.sub_self, List.set_cons_zero]
  simp
theorem shW_spec {d : List Int} (dd : Dig 18446744073709551616 d) {p : Int} (hp : 1 ≤ p) (hp2 : p ≤ 18446744073709551616) : Dig 18446744073709551616 (shW d p) ∧ (shW d p).length = d.length + 1 ∧ val 18446744073709551616 (shW d p) = val 18446744073709551616 d * p := by
  obtain ⟨h1, h2, h3, h4, h5⟩ := shR_spec dd hp d.length
  rw [val_take_all (Nat.le_refl _)] at h5
  refine ⟨?_, shS_len dd hp (Nat.le_refl _), ?_⟩
  · unfold shW shS
    rw [Nat.sub_self]
    exact h2.append (Dig.cons h3 (by omega) (Dig.nil _))
  · unfold shW shS
    rw [Nat.sub_self, val_append, h1]
    simp only [List.replicate_zero, val]
    rw [← h5]
    have e : ((18446744073709551616 : Nat) : Int) = (18446744073709551616 : Int) := rfl
    rw [e]; grind
theorem sh_step {x c : Int} {s : Nat} (hs : s ≤ 63) (hx0 : 0 ≤ x) (hx : x < 18446744073709551616) (hc0 : 0 ≤ c) (hc : c < 2 ^ s) :
    bits .or .u64 c (x * 2 ^ s % 18446744073709551616) = (c + x * 2 ^ s) % 18446744073709551616 ∧ x / 2 ^ (64 - s) = (c + x * 2 ^ s) / 18446744073709551616 := by
  have hp := pow2_pos s
  have hT := pow2_pos (64 - s)
  have hpT : (2 : Int) ^ s * 2 ^ (64 - s) = 18446744073709551616 := by rw [← Int.pow_add, show s + (64 - s) = 64 by omega]; rfl
  have hps : (2 : Int) ^ s ≤ 9223372036854775808 := by
    have : (2 : Nat) ^ s ≤ 2 ^ 63 := Nat.pow_le_pow_right (by omega) hs
    rw [← pow2_cast]; omega
  have d1 := Int.mul_ediv_add_emod x (2 ^ (64 - s))
  have d2 := Int.emod_nonneg x (show (2 : Int) ^ (64 - s) ≠ 0 by omega)
  have d3 := Int.emod_lt_of_pos x hT
  have d4 : 0 ≤ x / 2 ^ (64 - s) := Int.ediv_nonneg hx0 (by omega)
  generalize x / 2 ^ (64 - s) = a at *
  generalize x % 2 ^ (64 - s) = b at *
  have f2 : (b + 1) * 2 ^ s ≤ 18446744073709551616 := by
    have := Int.mul_le_mul_of_nonneg_right (show b + 1 ≤ 2 ^ (64 - s) by omega) (show (0 : Int) ≤ 2 ^ s by omega)
    rw [Int.mul_comm (2 ^ (64 - s)) (2 ^ s), hpT] at this; exact this
  have f3 : 0 ≤ b * 2 ^ s := Int.mul_nonneg d2 (by omega)
  have f4 : (b + 1) * 2 ^ s = b * 2 ^ s + 2 ^ s := by grind
  have f1 : x * 2 ^ s = a * 18446744073709551616 + b * 2 ^ s := by rw [← hpT, ← d1]; grind
  have f5 : x * 2 ^ s % 18446744073709551616 = b * 2 ^ s := by rw [f1]; omega
  rw [f5, or_join hc0 hc d2 (by omega) (by omega), f1]
  refine ⟨by omega, by omega⟩
/-- The row moved down: what stands above comes in. -/
theorem val_down {l : List Int} (dl : Dig 18446744073709551616 l) {s : Nat} (hs : s ≤ 63) {Q : Int} (hv : val 18446744073709551616 l = Q * 2 ^ s) {o : List Int} (hl : o.length = l.length) (ho : ∀ i, i < l.length → gt o i = gt l i / 2 ^ s + gt l (i + 1) % 2 ^ s * 2 ^ (64 - s)) :
    val 18446744073709551616 o = Q := by
  have hp := pow2_pos s
  have hT := pow2_pos (64 - s)
  have hpT : (2 : Int) ^ s * 2 ^ (64 - s) = 18446744073709551616 := by rw [← Int.pow_add, show s + (64 - s) = 64 by omega]; rfl
  have key : ∀ i, i ≤ l.length → val 18446744073709551616 (o.take i) * 2 ^ s + gt l 0 % 2 ^ s = val 18446744073709551616 (l.take i) + (18446744073709551616 : Int) ^ i * (gt l i % 2 ^ s) := by
    intro i
    induction i with
    | zero => intro _; simp [val]
    | succ i ih =>
      intro hi
      have h1 := ih (by omega)
      rw [val_take64, val_take64, ho i (by omega), Int.pow_succ]
      have d1 := Int.mul_ediv_add_emod (gt l i) (2 ^ s)
      generalize gt l i / 2 ^ s = a at *
      generalize gt l i % 2 ^ s = b at *
      generalize gt l (i + 1) % 2 ^ s = c at *
      generalize (18446744073709551616 : Int) ^ i = P at *
      generalize val 18446744073709551616 (o.take i) = X at *
      generalize val 18446744073709551616 (l.take i) = Y at *
      rw [← hpT, ← d1]
      grind
  have h0 := key l.length (Nat.le_refl _)
  rw [val_take_all (by omega), val_take_all (Nat.le_refl _), gt_ge (Nat.le_refl _), hv] at h0
  rw [Int.zero_emod, Int.mul_zero, Int.add_zero] at h0
  have hg : gt l 0 % 2 ^ s = 0 := by
    have e1 : gt l 0 % 2 ^ s = (Q - val 18446744073709551616 o) * 2 ^ s := by grind
    have h2 := Int.emod_nonneg (gt l 0) (show (2 : Int) ^ s ≠ 0 by omega)
    have h3 := Int.emod_lt_of_pos (gt l 0) hp
    rw [e1] at h2 h3
    have h4 : Q - val 18446744073709551616 o = 0 := by
      rcases Int.lt_or_le (Q - val 18446744073709551616 o) 0 with h | h
      · have := Int.mul_neg_of_neg_of_pos h hp; omega
      · rcases Int.lt_or_le 0 (Q - val 18446744073709551616 o) with h' | h'
        · have := Int.mul_le_mul_of_nonneg_right (show 1 ≤ Q - val 18446744073709551616 o by omega) (show (0 : Int) ≤ 2 ^ s by omega)
          omega
        · omega
    rw [e1, h4]; simp
  have h5 : val 18446744073709551616 o * 2 ^ s = Q * 2 ^ s := by omega
  exact Int.eq_of_mul_eq_mul_right (by omega) h5
theorem wd_pln (k : IntKind) (l : List Int) : ∀ r ∈ wd k l, ∀ x ∈ r, pln x := by
  intro r hr x hx
  simp only [wd, List.mem_map] at hr
  obtain ⟨n, _, rfl⟩ := hr
  simp only [List.mem_singleton] at hx
  subst hx; trivial
end Go.Proofs.YtaibemhdfhchfaaGreat

/- Division of words: how it begins, its loops, how it ends. -/
namespace Go.Proofs.YtaibemhdfhchfaaGreat
open Go Go.RowKit

theorem mag_len_mono {a b : Int} (h : a.natAbs ≤ b.natAbs) : (mag a).length ≤ (mag b).length := by
  rcases Nat.lt_or_ge (mag b).length (mag a).length with h1 | h1
  · have := can_len_lt (B := 18446744073709551616) (by omega) (mag_dig b) (mag_dig a) (mag_can a) h1
    rw [mag_val, mag_val] at this; omega
  · exact h1
theorem powB_two (i : Nat) : (18446744073709551616 : Int) ^ i = 2 ^ (64 * i) := by rw [Int.pow_mul]; rfl
theorem mag_top {d m : Nat} (hn : (mag (d : Int)).length = m + 1) : gt (mag (d : Int)) m ≠ 0 := by
  intro h
  have hc := mag_can (d : Int)
  refine hc ?_
  rw [List.getLast?_eq_getElem?, hn, Nat.add_sub_cancel, gt_some (by omega), h]
theorem gt_zeros (k i : Nat) : gt (List.replicate k (0 : Int)) i = 0 := by
  unfold gt; rw [List.getElem?_replicate]; split <;> rfl
theorem dw_init {a d m : Nat} (had : d ≤ a) (hn : (mag (d : Int)).length = m + 2) : ∃ (t k : Nat) (p : Int) (Vl : List Int), gt (mag (d : Int)) (m + 1) = (t : Int) ∧ t < 18446744073709551616 ∧ bitLen t + k = 64 ∧ k ≤ 63 ∧ p = 2 ^ k ∧ 0 < p ∧
    Vl = (shW (mag (d : Int)) p).take (m + 2) ∧ Dig 18446744073709551616 Vl ∧ Vl.length = m + 2 ∧ val 18446744073709551616 Vl = d * p ∧ 0 < gt Vl (m + 1) ∧ d * p ≤ (18446744073709551616 : Int) ^ (m + 2) ∧
    (mag (d : Int)).length ≤ (mag (a : Int)).length ∧
    Kn (a * p) (d * p) (shW (mag (a : Int)) p) (List.replicate ((mag (a : Int)).length - (m + 2) + 1) 0) ((mag (a : Int)).length - (m + 2) + 1) := by
  have dd := mag_dig (d : Int)
  have gd := dd.gt (by omega) (m + 1)
  have ht0 := mag_top (m := m + 1) (by omega : (mag (d : Int)).length = m + 1 + 1)
  obtain ⟨t, ht⟩ := Int.eq_ofNat_of_zero_le gd.1
  have hbl := bitLen_top (d : Int) t (by omega) (by rw [hn]; exact ht)
  rw [hn, Int.natAbs_natCast] at hbl
  have ht1 : t ≠ 0 := by omega
  have hb1 := bitLen_ne ht1
  have hb2 : bitLen t ≤ 64 := bitLen_le.2 (by omega)
  have hlen : (mag (d : Int)).length ≤ (mag (a : Int)).length := mag_len_mono (by simpa using had)
  have hd0 : d ≠ 0 := by intro h; subst h; rw [show ((0 : Nat) : Int) = 0 from rfl, mag_zero] at hn; simp at hn
  obtain ⟨q1, q2⟩ := bitLen_top2 hd0
  generalize hk : 64 - bitLen t = k
  have e1 : bitLen t + k = 64 := by omega
  have hp := pow2_pos k
  have hp2 : (2 : Int) ^ k ≤ 18446744073709551616 := by
    have : (2 : Nat) ^ k ≤ 2 ^ 64 := Nat.pow_le_pow_right (by omega) (by omega)
    rw [← pow2_cast]; omega
  have sd := shW_spec dd (show (1 : Int) ≤ 2 ^ k by omega) hp2
  have sa := shW_spec (mag_dig (a : Int)) (show (1 : Int) ≤ 2 ^ k by omega) hp2
  rw [mag_val, Int.natAbs_natCast] at sd sa
  have u1 : d * 2 ^ k < 2 ^ (64 * (m + 2)) := by
    have := Nat.mul_lt_mul_of_pos_right q2 (Nat.two_pow_pos k)
    rw [← Nat.pow_add] at this
    have e : bitLen d + k = 64 * (m + 2) := by omega
    rw [e] at this; exact this
  have u2 : 2 ^ (64 * (m + 1)) ≤ d * 2 ^ k := by
    have := Nat.mul_le_mul_right (2 ^ k) q1
    rw [← Nat.pow_add] at this
    have : 2 ^ (64 * (m + 1)) ≤ 2 ^ (bitLen d - 1 + k) := Nat.pow_le_pow_right (by omega) (by omega)
    omega
  have ec : ((d * 2 ^ k : Nat) : Int) = (d : Int) * 2 ^ k := by rw [Int.natCast_mul, pow2_cast]
  have v1 : (d : Int) * 2 ^ k < 18446744073709551616 ^ (m + 2) := by rw [powB_two, ← ec, ← pow2_cast]; omega
  have v2 : (18446744073709551616 : Int) ^ (m + 1) ≤ (d : Int) * 2 ^ k := by rw [powB_two, ← ec, ← pow2_cast]; omega
  have hsp := val_split (shW (mag (d : Int)) (2 ^ k)) (m + 2)
  have hdr := val_nonneg (sd.1.drop (m + 2))
  have htk := val_nonneg (sd.1.take (m + 2))
  rw [sd.2.2] at hsp
  have hz : val 18446744073709551616 ((shW (mag (d : Int)) (2 ^ k)).drop (m + 2)) = 0 := by
    rcases Int.lt_or_le 0 (val 18446744073709551616 ((shW (mag (d : Int)) (2 ^ k)).drop (m + 2))) with h | h
    · exfalso
      have := Int.mul_le_mul_of_nonneg_left (show 1 ≤ val 18446744073709551616 ((shW (mag (d : Int)) (2 ^ k)).drop (m + 2)) by omega) (Int.le_of_lt (powB_pos (m + 2)))
      rw [Int.mul_one] at this; omega
    · omega
  rw [hz, Int.mul_zero, Int.add_zero] at hsp
  have hVl : ((shW (mag (d : Int)) (2 ^ k)).take (m + 2)).length = m + 2 := by rw [List.length_take, sd.2.1, hn]; omega
  refine ⟨t, k, 2 ^ k, _, ht, by omega, e1, by omega, rfl, hp, rfl, sd.1.take _, hVl, hsp.symm, ?_, Int.le_of_lt v1, hlen, sa.1, ?_, ?_, Dig.replicate _ (by omega) (by omega), fun i _ => gt_zeros _ _⟩
  · have dV := sd.1.take (m + 2)
    have g := dV.gt (by omega) (m + 1)
    have hs2 := val_take64 ((shW (mag (d : Int)) (2 ^ k)).take (m + 2)) (m + 1)
    rw [val_take_all (by omega), ← hsp] at hs2
    have hlt := val_ltB (dV.take (m + 1)) (n := m + 1) (by simp; omega)
    rcases Int.lt_or_le 0 (gt ((shW (mag (d : Int)) (2 ^ k)).take (m + 2)) (m + 1)) with h | h
    · exact h
    · exfalso
      have : gt ((shW (mag (d : Int)) (2 ^ k)).take (m + 2)) (m + 1) = 0 := by omega
      rw [this, Int.mul_zero] at hs2; omega
  · rw [sa.2.2, val_replicate]; simp
  · have hs3 := val_split (shW (mag (a : Int)) (2 ^ k)) ((mag (a : Int)).length - (m + 2) + 1)
    have hn3 := val_nonneg (sa.1.take ((mag (a : Int)).length - (m + 2) + 1))
    rw [sa.2.2] at hs3
    generalize val 18446744073709551616 ((shW (mag (a : Int)) (2 ^ k)).drop ((mag (a : Int)).length - (m + 2) + 1)) = X at *
    generalize val 18446744073709551616 ((shW (mag (a : Int)) (2 ^ k)).take ((mag (a : Int)).length - (m + 2) + 1)) = T at *
    rcases Int.lt_or_le X ((d : Int) * 2 ^ k) with h | h
    · exact h
    · exfalso
      have hJ := powB_pos ((mag (a : Int)).length - (m + 2) + 1)
      have h1 := Int.mul_le_mul_of_nonneg_left h (Int.le_of_lt hJ)
      have ha := val_lt64 (mag_dig (a : Int))
      rw [mag_val, Int.natAbs_natCast] at ha
      have hdv := val_take64 (mag (d : Int)) (m + 1)
      rw [val_take_all (by omega), mag_val, Int.natAbs_natCast, ht] at hdv
      have hdn := val_nonneg (dd.take (m + 1))
      have hB1 := powB_pos (m + 1)
      have h2 : (18446744073709551616 : Int) ^ (m + 1) ≤ d := by
        have := Int.mul_le_mul_of_nonneg_left (show (1 : Int) ≤ t by omega) (Int.le_of_lt hB1)
        rw [Int.mul_one] at this; omega
      have h3 := Int.mul_le_mul_of_nonneg_left h2 (Int.le_of_lt hJ)
      rw [← Int.pow_add, show (mag (a : Int)).length - (m + 2) + 1 + (m + 1) = (mag (a : Int)).length by omega] at h3
      have h4 : (a : Int) < 18446744073709551616 ^ ((mag (a : Int)).length - (m + 2) + 1) * d := by omega
      have h5 := Int.mul_lt_mul_of_pos_right h4 hp
      rw [Int.mul_assoc] at h5
      omega
theorem dw_fin {a d : Nat} {p : Int} (hp : 0 < p) {u out : List Int} (h : Kn (a * p) (d * p) u out 0) : val 18446744073709551616 out = ((a / d : Nat) : Int) ∧ val 18446744073709551616 u = ((a % d : Nat) : Int) * p := by
  have h1 := h.eq
  have h2 := h.hi
  rw [List.drop_zero] at h2
  have h3 := val_nonneg h.dig
  generalize val 18446744073709551616 out = Q at *
  have e : val 18446744073709551616 u = (a - Q * d) * p := by grind
  rw [e] at h2 h3 ⊢
  have r0 : 0 ≤ (a : Int) - Q * d := by
    rcases Int.lt_or_le ((a : Int) - Q * d) 0 with h | h
    · have := Int.mul_neg_of_neg_of_pos h hp; omega
    · exact h
  have r1 : (a : Int) - Q * d < d := by
    rcases Int.lt_or_le ((a : Int) - Q * d) d with h | h
    · exact h
    · have := Int.mul_le_mul_of_nonneg_right h (Int.le_of_lt hp); omega
  obtain ⟨f1, f2⟩ := div_of (N := (a : Int)) (y := d) (Q := Q) (R := a - Q * d) (by omega) r0 r1
  rw [Int.natCast_ediv, Int.natCast_emod, f1, f2]
  exact ⟨rfl, rfl⟩
/-- A word times the guess taken away. -/
theorem win_sub {u0 u Vl : List Int} {j n i : Nat} {q br c : Int} (w : Win u0 u j n (-(q * val 18446744073709551616 (Vl.take i)) + 18446744073709551616 ^ i * (br + c))) (hi : i ≤ n) (hk : j + i < u.length) (dV : Dig 18446744073709551616 Vl)
    (hq0 : 0 ≤ q) (hq : q < 18446744073709551616) (hb0 : 0 ≤ br) (hb : br ≤ 1) (hc0 : 0 ≤ c) (hc : c < 18446744073709551616) :
    0 ≤ q * gt Vl i ∧ 0 ≤ q * gt Vl i / 18446744073709551616 + (q * gt Vl i % 18446744073709551616 + c) / 18446744073709551616 ∧ q * gt Vl i / 18446744073709551616 + (q * gt Vl i % 18446744073709551616 + c) / 18446744073709551616 < 18446744073709551616 ∧
    Win u0 (u.set (j + i) ((gt u (j + i) - (q * gt Vl i % 18446744073709551616 + c) % 18446744073709551616 - br) % 18446744073709551616)) j n (-(q * val 18446744073709551616 (Vl.take (i + 1))) + 18446744073709551616 ^ (i + 1) * ((if gt u (j + i) < (q * gt Vl i % 18446744073709551616 + c) % 18446744073709551616 + br then 1 else 0) + (q * gt Vl i / 18446744073709551616 + (q * gt Vl i % 18446744073709551616 + c) / 18446744073709551616))) := by
  have gv := dV.gt (by omega) i
  have gu := w.dig.gt (by omega) (j + i)
  have h0 : 0 ≤ q * gt Vl i := Int.mul_nonneg hq0 gv.1
  have h1 : q * gt Vl i ≤ 18446744073709551615 * 18446744073709551615 := Int.mul_le_mul (by omega) (by omega) gv.1 (by omega)
  refine ⟨h0, by omega, by omega, ?_⟩
  refine w.set hi hk (Int.emod_nonneg _ (by omega)) (Int.emod_lt_of_pos _ (by omega)) ?_
  rw [val_take64, Int.pow_succ]
  have key : (gt u (j + i) - (q * gt Vl i % 18446744073709551616 + c) % 18446744073709551616 - br) % 18446744073709551616 - gt u (j + i) = 18446744073709551616 * ((if gt u (j + i) < (q * gt Vl i % 18446744073709551616 + c) % 18446744073709551616 + br then 1 else 0) + (q * gt Vl i / 18446744073709551616 + (q * gt Vl i % 18446744073709551616 + c) / 18446744073709551616)) - q * gt Vl i - c - br := by
    generalize q * gt Vl i = P at *
    split <;> omega
  generalize (gt u (j + i) - (q * gt Vl i % 18446744073709551616 + c) % 18446744073709551616 - br) % 18446744073709551616 - gt u (j + i) = D at *
  subst key
  grind
theorem win_sub_last {u0 u : List Int} {j n : Nat} {X br c : Int} (w : Win u0 u j n (X + 18446744073709551616 ^ n * (br + c))) (hk : j + n < u.length) (hb0 : 0 ≤ br) (hb : br ≤ 1) (hc0 : 0 ≤ c) (hc : c < 18446744073709551616) :
    Win u0 (u.set (j + n) ((gt u (j + n) - c - br) % 18446744073709551616)) j n (X + 18446744073709551616 ^ (n + 1) * (if gt u (j + n) < c + br then 1 else 0)) := by
  have gu := w.dig.gt (by omega) (j + n)
  refine w.set (Nat.le_refl _) hk (Int.emod_nonneg _ (by omega)) (Int.emod_lt_of_pos _ (by omega)) ?_
  rw [Int.pow_succ]
  have key : (gt u (j + n) - c - br) % 18446744073709551616 - gt u (j + n) = 18446744073709551616 * (if gt u (j + n) < c + br then 1 else 0) - c - br := by
    split <;> omega
  generalize (gt u (j + n) - c - br) % 18446744073709551616 - gt u (j + n) = D at *
  subst key
  grind
/-- The divisor added back. -/
theorem win_add {u0 u Vl : List Int} {j n i : Nat} {X c : Int} (w : Win u0 u j n (X + val 18446744073709551616 (Vl.take i) - 18446744073709551616 ^ i * c)) (hi : i ≤ n) (hk : j + i < u.length) (dV : Dig 18446744073709551616 Vl) (hc0 : 0 ≤ c) (hc : c ≤ 1) :
    0 ≤ (gt u (j + i) + gt Vl i + c) / 18446744073709551616 ∧ (gt u (j + i) + gt Vl i + c) / 18446744073709551616 ≤ 1 ∧
    Win u0 (u.set (j + i) ((gt u (j + i) + gt Vl i + c) % 18446744073709551616)) j n (X + val 18446744073709551616 (Vl.take (i + 1)) - 18446744073709551616 ^ (i + 1) * ((gt u (j + i) + gt Vl i + c) / 18446744073709551616)) := by
  have gv := dV.gt (by omega) i
  have gu := w.dig.gt (by omega) (j + i)
  refine ⟨by omega, by omega, ?_⟩
  refine w.set hi hk (Int.emod_nonneg _ (by omega)) (Int.emod_lt_of_pos _ (by omega)) ?_
  rw [val_take64, Int.pow_succ]
  have key : (gt u (j + i) + gt Vl i + c) % 18446744073709551616 - gt u (j + i) = gt Vl i + c - 18446744073709551616 * ((gt u (j + i) + gt Vl i + c) / 18446744073709551616) := by omega
  generalize (gt u (j + i) + gt Vl i + c) % 18446744073709551616 - gt u (j + i) = D at *
  subst key
  grind
theorem win_add_last {u0 u : List Int} {j n : Nat} {X c : Int} (w : Win u0 u j n (X - 18446744073709551616 ^ n * c)) (hk : j + n < u.length) (hc0 : 0 ≤ c) (hc : c ≤ 1) :
    0 ≤ (gt u (j + n) + c) / 18446744073709551616 ∧ (gt u (j + n) + c) / 18446744073709551616 ≤ 1 ∧
    Win u0 (u.set (j + n) ((gt u (j + n) + c) % 18446744073709551616)) j n (X - 18446744073709551616 ^ (n + 1) * ((gt u (j + n) + c) / 18446744073709551616)) := by
  have gu := w.dig.gt (by omega) (j + n)
  refine ⟨by omega, by omega, ?_⟩
  refine w.set (Nat.le_refl _) hk (Int.emod_nonneg _ (by omega)) (Int.emod_lt_of_pos _ (by omega)) ?_
  rw [Int.pow_succ]
  have key : (gt u (j + n) + c) % 18446744073709551616 - gt u (j + n) = c - 18446744073709551616 * ((gt u (j + n) + c) / 18446744073709551616) := by omega
  generalize (gt u (j + n) + c) % 18446744073709551616 - gt u (j + n) = D at *
  subst key
  grind
end Go.Proofs.YtaibemhdfhchfaaGreat

/- Division by one word; the rest moved down. -/
namespace Go.Proofs.YtaibemhdfhchfaaGreat
open Go Go.RowKit

theorem ab_cast (q V P c : Int) : -((q - 1) * V) + P * (1 - c) = -(q * V) + P + V - P * c := by grind
/-- An equation that omega is not to look at. -/
def TN (a b : Nat) : Prop := a = b
theorem TN.i {a b : Nat} (h : a = b) : TN a b := h
theorem TN.e {a b : Nat} (h : TN a b) : a = b := h
theorem mag_one {d : Nat} (hn : (mag (d : Int)).length = 1) : gt (mag (d : Int)) 0 = d := by
  have h := val_take64 (mag (d : Int)) 0
  rw [val_take_all (by omega), mag_val, Int.natAbs_natCast] at h
  simp only [List.take_zero, val, Int.pow_zero, Int.one_mul, Int.zero_add] at h
  exact h.symm
theorem div1_step {A out : List Int} {i : Nat} {d r : Int} (dA : Dig 18446744073709551616 A) (dO : Dig 18446744073709551616 out) (hi : i < out.length) (hr0 : 0 ≤ r) (hr : r < d)
    (h : val 18446744073709551616 (A.drop (i + 1)) = d * val 18446744073709551616 (out.drop (i + 1)) + r) :
    0 ≤ (r * 18446744073709551616 + gt A i) / d ∧ (r * 18446744073709551616 + gt A i) / d < 18446744073709551616 ∧ 0 ≤ (r * 18446744073709551616 + gt A i) % d ∧ (r * 18446744073709551616 + gt A i) % d < d ∧
    val 18446744073709551616 (A.drop i) = d * val 18446744073709551616 ((out.set i ((r * 18446744073709551616 + gt A i) / d)).drop i) + (r * 18446744073709551616 + gt A i) % d := by
  have ga := dA.gt (by omega) i
  have e1 := Int.mul_ediv_add_emod (r * 18446744073709551616 + gt A i) d
  refine ⟨Int.ediv_nonneg (by omega) (by omega), Int.ediv_lt_of_lt_mul (by omega) (by omega), Int.emod_nonneg _ (by omega), Int.emod_lt_of_pos _ (by omega), ?_⟩
  rw [val_gt_drop A i, val_gt_drop (out.set i _) i, gt_set hi, List.drop_set_of_lt (by omega), h]
  generalize (r * 18446744073709551616 + gt A i) / d = q at *
  generalize (r * 18446744073709551616 + gt A i) % d = s at *
  grind
theorem div1_fin {a d : Nat} {out : List Int} {r : Int} (hr0 : 0 ≤ r) (hr : r < d) (h : val 18446744073709551616 ((mag (a : Int)).drop 0) = d * val 18446744073709551616 (out.drop 0) + r) :
    val 18446744073709551616 out = ((a / d : Nat) : Int) ∧ r = ((a % d : Nat) : Int) := by
  rw [List.drop_zero, List.drop_zero, mag_val, Int.natAbs_natCast] at h
  obtain ⟨f1, f2⟩ := div_of (N := (a : Int)) (y := d) (Q := val 18446744073709551616 out) (R := r) (by rw [h, Int.mul_comm]) hr0 hr
  rw [Int.natCast_ediv, Int.natCast_emod, f1, f2]
  exact ⟨rfl, rfl⟩
theorem shl_low {x : Int} {k : Nat} (hk : k ≤ 64) : x * 2 ^ (64 - k) % 18446744073709551616 = x % 2 ^ k * 2 ^ (64 - k) := by
  have hpT : (2 : Int) ^ k * 2 ^ (64 - k) = 18446744073709551616 := by rw [← Int.pow_add, show k + (64 - k) = 64 by omega]; rfl
  rw [← hpT, Int.mul_comm x, Int.mul_comm (2 ^ k), Int.mul_emod_mul_of_pos _ _ (pow2_pos _), Int.mul_comm]
theorem or_down {x y : Int} {k : Nat} (hk : k ≤ 63) (hx0 : 0 ≤ x) (hx : x < 18446744073709551616) : bits .or .u64 (x / 2 ^ k) (y % 2 ^ k * 2 ^ (64 - k)) = x / 2 ^ k + y % 2 ^ k * 2 ^ (64 - k) ∧ 0 ≤ x / 2 ^ k + y % 2 ^ k * 2 ^ (64 - k) ∧ x / 2 ^ k + y % 2 ^ k * 2 ^ (64 - k) < 18446744073709551616 := by
  have hp := pow2_pos k
  have hT := pow2_pos (64 - k)
  have hpT : (2 : Int) ^ k * 2 ^ (64 - k) = 18446744073709551616 := by rw [← Int.pow_add, show k + (64 - k) = 64 by omega]; rfl
  have d2 := Int.emod_nonneg y (show (2 : Int) ^ k ≠ 0 by omega)
  have d3 := Int.emod_lt_of_pos y hp
  have d4 : 0 ≤ x / 2 ^ k := Int.ediv_nonneg hx0 (by omega)
  have d5 : x / 2 ^ k < 2 ^ (64 - k) := Int.ediv_lt_of_lt_mul hp (by rw [Int.mul_comm, hpT]; exact hx)
  have d6 : x / 2 ^ k ≤ x := Int.ediv_le_self _ hx0
  have f2 := Int.mul_le_mul_of_nonneg_right (show y % 2 ^ k + 1 ≤ 2 ^ k by omega) (Int.le_of_lt hT)
  rw [hpT] at f2
  have f3 : 0 ≤ y % 2 ^ k * 2 ^ (64 - k) := Int.mul_nonneg d2 (by omega)
  have f4 : (y % 2 ^ k + 1) * 2 ^ (64 - k) = y % 2 ^ k * 2 ^ (64 - k) + 2 ^ (64 - k) := by grind
  refine ⟨or_join d4 d5 d2 (by omega) (by omega), by omega, by omega⟩
theorem gt_take {l : List Int} {i m : Nat} (h : i < m) : gt (l.take m) i = gt l i := by
  unfold gt; rw [List.getElem?_take_of_lt h]
theorem gt_trimW {l : List Int} (i : Nat) (h : i < (trimW l).length) : gt (trimW l) i = gt l i := by
  induction hl : l.length generalizing l with
  | zero =>
    have : l = [] := List.length_eq_zero_iff.mp hl
    subst this; simp [trimW] at h
  | succ n ih =>
    rcases List.eq_nil_or_concat l with rfl | ⟨l', x, rfl⟩
    · simp at hl
    · rw [List.concat_eq_append] at *
      by_cases hx : x = 0
      · subst hx
        rw [trimW_concat_zero] at h ⊢
        rw [ih h (by simp at hl; omega)]
        have := trimW_length l'
        unfold gt
        rw [List.getElem?_append_left (by omega)]
      · rw [trimW_concat_pos _ _ hx]
/-- What is left: trimmed, moved down, is the rest. -/
theorem rest_down {a d k n : Nat} {u o : List Int} (hk : k ≤ 63) (du : Dig 18446744073709551616 u) (hn : n ≤ u.length) (hu : val 18446744073709551616 u = ((a % d : Nat) : Int) * 2 ^ k) (hlt : val 18446744073709551616 u < (18446744073709551616 : Int) ^ n)
    (dO : Dig 18446744073709551616 o) (ho : (trimW (u.take n)).length ≤ o.length) (hs : ∀ x, x < (trimW (u.take n)).length → gt o x = gt (trimW (u.take n)) x / 2 ^ k + gt (trimW (u.take n)) (x + 1) % 2 ^ k * 2 ^ (64 - k)) :
    Dig 18446744073709551616 (o.take (trimW (u.take n)).length) ∧ trimW (o.take (trimW (u.take n)).length) = mag ((a % d : Nat) : Int) := by
  have dO2 := dO.take (trimW (u.take n)).length
  refine ⟨dO2, ?_⟩
  rw [mag_of dO2]
  congr 1
  have hsp := val_split u n
  have h0 := val_nonneg (du.take n)
  have h1 := val_nonneg (du.drop n)
  have hz : val 18446744073709551616 (u.drop n) = 0 := by
    rcases Int.lt_or_le 0 (val 18446744073709551616 (u.drop n)) with h | h
    · exfalso
      have := Int.mul_le_mul_of_nonneg_left (show 1 ≤ val 18446744073709551616 (u.drop n) by omega) (Int.le_of_lt (powB_pos n))
      rw [Int.mul_one] at this; omega
    · omega
  rw [hz, Int.mul_zero, Int.add_zero] at hsp
  refine val_down (l := trimW (u.take n)) (s := k) (du.take n).trim hk (by rw [trimW_val, ← hsp, hu]) (by simp; omega) fun i hi => ?_
  rw [gt_take hi]; exact hs i hi
theorem fz_wdt {id n : Nat} {k : IntKind} {l : List Int} (h : n ≤ l.length) : fz id (wd k l) (.osl id 0 n) = Wd k (l.take n) := by
  simp [fz, Wd, wd, List.map_take, h]
end Go.Proofs.YtaibemhdfhchfaaGreat

/- Points as the program and its reference hold them. -/
namespace Go.Proofs.YtaibemhdfhchfaaGreat
open Go Go.RowKit

structure W4 where
  a : Int
  b : Int
  c : Int
  d : Int
def W4.ok (x : W4) : Prop := U64 x.a ∧ U64 x.b ∧ U64 x.c ∧ U64 x.d
def W4.v (x : W4) : Int := sval x.a x.b x.c x.d
theorem W4.bg {x : W4} (h : x.ok) : Bg 4 x.v := sval_bg h.1 h.2.1 h.2.2.1 h.2.2.2
structure Pt where
  x : W4
  y : W4
  w : W4
def Pt.ok (p : Pt) : Prop := p.x.ok ∧ p.y.ok ∧ p.w.ok
def Pt.cells (p : Pt) : List AV := [.int .u64 p.x.a, .int .u64 p.x.b, .int .u64 p.x.c, .int .u64 p.x.d, .int .u64 p.y.a, .int .u64 p.y.b, .int .u64 p.y.c, .int .u64 p.y.d, .int .u64 p.w.a, .int .u64 p.w.b, .int .u64 p.w.c, .int .u64 p.w.d]
def Pt.av (p : Pt) : AV := .agg p.cells
/-- Parts of 80 bits at most. -/
def sm (x y w : Int) : Bool := decide (bitLen x.natAbs ≤ 80) && (decide (bitLen y.natAbs ≤ 80) && decide (bitLen w.natAbs ≤ 80))
def Pt.good (p : Pt) : Bool := decide (0 < p.w.v) && sm p.x.v p.y.v p.w.v && decide (Nat.gcd (Int.gcd p.x.v p.y.v) p.w.v.natAbs = 1)
def l3C (x y w : Int) : List AV := [.bool (decide (x < 0)), Wd .u32 (dg x), .bool (decide (y < 0)), Wd .u32 (dg y), .bool (decide (w < 0)), Wd .u32 (dg w)]
def l3A (x y w : Int) : AV := .agg (l3C x y w)
def spC (x y w : Int) : List AV := [.bool (decide (x < 0)), Wd .u64 (mag x), .bool (decide (y < 0)), Wd .u64 (mag y), .bool (decide (w < 0)), Wd .u64 (mag w)]
def spA (x y w : Int) : AV := .agg (spC x y w)
theorem one_cmp (g : Int) : ((if g < 1 then (-1 : Int) else if g > 1 then 1 else 0) == 0) = decide (g = 1) := by
  by_cases h : g = 1
  · subst h; rfl
  · rw [decide_eq_false h]
    split
    · rfl
    · split
      · rfl
      · exfalso; omega
/-- The greatest divisor of all. -/
def gcdL (zs : List Int) : Nat := zs.foldl (fun g z => Nat.gcd g z.natAbs) 0
def numC (z : Int) : List AV := [.bool (decide (z < 0)), Wd .u64 (mag z)]
theorem gcdL_three (x y w : Int) : gcdL [x, y, w] = Nat.gcd (Int.gcd x y) w.natAbs := by
  simp [gcdL, Int.gcd]
theorem Bg.gcd {j : Nat} {a b : Nat} (ha : Bg j (a : Int)) (hb : Bg j (b : Int)) : Bg j ((Nat.gcd a b : Nat) : Int) := by
  rcases Nat.eq_zero_or_pos a with h | h
  · subst h; rw [Nat.gcd_zero_left]; exact hb
  · have := Nat.gcd_le_left b h
    unfold Bg at *
    rw [Int.natAbs_natCast] at *
    omega
theorem gcdL_bg {j : Nat} (zs : List Int) (h : ∀ z ∈ zs, Bg j z) (i : Nat) : Bg j ((gcdL (zs.take i) : Nat) : Int) := by
  have key : ∀ (l : List Int) (g : Nat), (∀ z ∈ l, Bg j z) → Bg j (g : Int) → Bg j ((l.foldl (fun g z => Nat.gcd g z.natAbs) g : Nat) : Int) := by
    intro l
    induction l with
    | nil => intro g _ hg; exact hg
    | cons z r ih => intro g hl hg; exact ih _ (fun y hy => hl y (by simp [hy])) (Bg.gcd hg (hl z (by simp)).abs)
  refine key _ _ (fun z hz => h z (List.mem_of_mem_take hz)) ?_
  unfold Bg; exact Nat.pow_pos (by omega)
theorem gcdL_succ (zs : List Int) {i : Nat} (h : i < zs.length) : gcdL (zs.take (i + 1)) = Nat.gcd (gcdL (zs.take i)) (gt zs i).natAbs := by
  have e := take_succ_gt h
  rw [e]; simp [gcdL, List.foldl_append]
theorem max_sm (x y w : Int) : decide ((if (if bitLen x.natAbs < bitLen y.natAbs then (bitLen y.natAbs : Int) else (bitLen x.natAbs : Int)) < (bitLen w.natAbs : Int) then (bitLen w.natAbs : Int) else if bitLen x.natAbs < bitLen y.natAbs then (bitLen y.natAbs : Int) else (bitLen x.natAbs : Int)) ≤ 80) = sm x y w := by
  unfold sm
  rw [← Bool.decide_and, ← Bool.decide_and]
  congr 1
  apply propext
  by_cases h1 : bitLen x.natAbs < bitLen y.natAbs
  · simp only [h1, if_true]
    split <;> omega
  · simp only [h1, if_false]
    split <;> omega
end Go.Proofs.YtaibemhdfhchfaaGreat

/- How large loops are; rows being filled. -/
namespace Go.Proofs.YtaibemhdfhchfaaGreat
open Go Go.RowKit

theorem fz_fill {α : Type} {id n : Nat} (f : α → List AV) (l : List α) (h : n = l.length) : fz id (l.map f) (.osl id 0 n) = .isl (l.map f) := by
  subst h
  simp [fz]
  rw [← List.map_take, List.take_length]
end Go.Proofs.YtaibemhdfhchfaaGreat

/- Euclid's division by signs; determinants. -/
namespace Go.Proofs.YtaibemhdfhchfaaGreat
open Go Go.RowKit

theorem ediv_uniq {a b Q R : Int} (hb : b ≠ 0) (h : a = b * Q + R) (h0 : 0 ≤ R) (h1 : R < (b.natAbs : Int)) : Q = a / b ∧ R = a % b := by
  rcases Int.lt_or_le 0 b with hp | hp
  · have := div_of (N := a) (y := b) (Q := Q) (R := R) (by rw [h, Int.mul_comm]) h0 (by omega)
    exact ⟨this.1.symm, this.2.symm⟩
  · have h2 := div_of (N := a) (y := -b) (Q := -Q) (R := R) (by rw [h]; grind) h0 (by omega)
    rw [Int.ediv_neg, Int.emod_neg] at h2
    exact ⟨by omega, h2.2.symm⟩
/-- Quotient and rest by signs. -/
theorem eu_lem (a b : Int) (hb : b ≠ 0) :
    (¬ sg (decide (a < 0)) ((a.natAbs % b.natAbs : Nat) : Int) < 0 → sg (decide (a < 0) != decide (b < 0)) ((a.natAbs / b.natAbs : Nat) : Int) = a / b ∧ sg (decide (a < 0)) ((a.natAbs % b.natAbs : Nat) : Int) = a % b) ∧
    (sg (decide (a < 0)) ((a.natAbs % b.natAbs : Nat) : Int) < 0 → b < 0 → sg (decide (a < 0) != decide (b < 0)) ((a.natAbs / b.natAbs : Nat) : Int) + 1 = a / b ∧ sg (decide (a < 0)) ((a.natAbs % b.natAbs : Nat) : Int) - b = a % b) ∧
    (sg (decide (a < 0)) ((a.natAbs % b.natAbs : Nat) : Int) < 0 → ¬ b < 0 → sg (decide (a < 0) != decide (b < 0)) ((a.natAbs / b.natAbs : Nat) : Int) - 1 = a / b ∧ sg (decide (a < 0)) ((a.natAbs % b.natAbs : Nat) : Int) + b = a % b) := by
  have e := Nat.div_add_mod a.natAbs b.natAbs
  have hlt := Nat.mod_lt a.natAbs (show b.natAbs > 0 by omega)
  generalize a.natAbs / b.natAbs = q at *
  generalize a.natAbs % b.natAbs = r at *
  have e2 : (a.natAbs : Int) = (b.natAbs : Int) * q + r := by
    have : ((b.natAbs * q + r : Nat) : Int) = (a.natAbs : Int) := by rw [e]
    rw [← this]; simp
  by_cases ha : a < 0 <;> by_cases hn : b < 0
  · have ea : (a.natAbs : Int) = -a := by omega
    have eb : (b.natAbs : Int) = -b := by omega
    rw [ea, eb] at e2
    simp only [ha, hn, decide_true, bne_self_eq_false, sg_true, sg_false]
    refine ⟨fun h => ediv_uniq hb ?_ (by omega) (by omega), fun h _ => ediv_uniq hb ?_ (by omega) (by omega), fun h h2 => absurd trivial (fun _ => h2 trivial)⟩
    · have : (r : Int) = 0 := by omega
      grind
    · grind
  · have ea : (a.natAbs : Int) = -a := by omega
    have eb : (b.natAbs : Int) = b := by omega
    rw [ea, eb] at e2
    simp only [ha, hn, decide_true, decide_false, sg_true, show (true != false) = true from rfl]
    refine ⟨fun h => ediv_uniq hb ?_ (by omega) (by omega), fun h h2 => absurd h2 (by simp), fun h _ => ediv_uniq hb ?_ (by omega) (by omega)⟩
    · have : (r : Int) = 0 := by omega
      grind
    · grind
  · have ea : (a.natAbs : Int) = a := by omega
    have eb : (b.natAbs : Int) = -b := by omega
    rw [ea, eb] at e2
    simp only [ha, hn, decide_true, decide_false, sg_true, sg_false, show (false != true) = true from rfl]
    refine ⟨fun h => ediv_uniq hb ?_ (by omega) (by omega), fun h => absurd h (by omega), fun h => absurd h (by omega)⟩
    grind
  · have ea : (a.natAbs : Int) = a := by omega
    have eb : (b.natAbs : Int) = b := by omega
    rw [ea, eb] at e2
    simp only [ha, hn, decide_false, bne_self_eq_false, sg_false]
    refine ⟨fun h => ediv_uniq hb ?_ (by omega) (by omega), fun h => absurd h (by omega), fun h => absurd h (by omega)⟩
    exact e2
def sg3 (z : Int) : Int := if z < 0 then -1 else if z > 0 then 1 else 0
theorem sg3_b (z : Int) : -1 ≤ sg3 z ∧ sg3 z ≤ 1 := by unfold sg3; split <;> (try split) <;> omega
end Go.Proofs.YtaibemhdfhchfaaGreat

/- Points made out of numbers. -/
namespace Go.Proofs.YtaibemhdfhchfaaGreat
open Go Go.RowKit

/-- A number in four words, noughts where it is not told. -/
def W4z (z : Int) : W4 := if fits z then ⟨modW z / 18446744073709551616 / 18446744073709551616 / 18446744073709551616, modW z / 18446744073709551616 / 18446744073709551616 % 18446744073709551616, modW z / 18446744073709551616 % 18446744073709551616, modW z % 18446744073709551616⟩ else ⟨0, 0, 0, 0⟩
def W4.l (x : W4) : List AV := [.int .u64 x.a, .int .u64 x.b, .int .u64 x.c, .int .u64 x.d]
theorem wdT_l (z : Int) : wdT z = .agg (W4z z).l := by unfold wdT W4z W4.l wdZ wdI; split <;> rfl
theorem W4z_ok (z : Int) : (W4z z).ok := by
  unfold W4z W4.ok U64
  split
  · unfold modW; simp only []; omega
  · simp
theorem uval_mod {m : Int} (h0 : 0 ≤ m) (h1 : m < 115792089237316195423570985008687907853269984665640564039457584007913129639936) : uval (m / 18446744073709551616 / 18446744073709551616 / 18446744073709551616) (m / 18446744073709551616 / 18446744073709551616 % 18446744073709551616) (m / 18446744073709551616 % 18446744073709551616) (m % 18446744073709551616) = m := by
  unfold uval; omega
theorem W4z_v {z : Int} (h : fits z = true) : (W4z z).v = z := by
  unfold W4z W4.v
  rw [if_pos h]
  have hf := h
  unfold fits at hf
  simp only [decide_eq_true_eq] at hf
  unfold sval
  have hm : 0 ≤ modW z ∧ modW z < 115792089237316195423570985008687907853269984665640564039457584007913129639936 := by unfold modW; omega
  rw [uval_mod hm.1 hm.2]
  simp only []
  unfold modW at *
  split <;> omega
def pt0 : Pt := ⟨⟨0, 0, 0, 0⟩, ⟨0, 0, 0, 0⟩, ⟨0, 0, 0, 0⟩⟩
theorem pt0_ok : pt0.ok := by unfold Pt.ok W4.ok U64 pt0; simp
/-- A point out of numbers, where they are small. -/
def pt3 (x y w : Int) : Pt := if sm x y w = true then ⟨W4z x, W4z y, W4z w⟩ else pt0
theorem pt3_ok (x y w : Int) : (pt3 x y w).ok := by
  unfold pt3; split
  · exact ⟨W4z_ok _, W4z_ok _, W4z_ok _⟩
  · exact pt0_ok
def gcd3 (x y w : Int) : Int := ((Nat.gcd (Int.gcd x y) w.natAbs : Nat) : Int)
theorem gcd3_pos {x y w : Int} (h : w ≠ 0) : 0 < gcd3 x y w := by
  unfold gcd3
  have := Nat.gcd_pos_of_pos_right (Int.gcd x y) (show 0 < w.natAbs by omega)
  omega
theorem gcd3_neg (x y w : Int) : gcd3 (-x) (-y) (-w) = gcd3 x y w := by
  unfold gcd3; rw [Int.gcd_neg, Int.neg_gcd, Int.natAbs_neg]
def nrm (w x : Int) : Int := if w < 0 then -x else x
theorem gcd3_nrm (x y w : Int) : gcd3 (nrm w x) (nrm w y) (nrm w w) = gcd3 x y w := by
  unfold nrm; split
  · exact gcd3_neg _ _ _
  · rfl
theorem Bg.nrm {j : Nat} {w x : Int} (h : Bg j x) : Bg j (nrm w x) := by
  unfold Go.Proofs.YtaibemhdfhchfaaGreat.nrm; split
  · exact h.neg
  · exact h
theorem Bg.div {j : Nat} {x g : Int} (h : Bg j x) (hg : 0 < g) : Bg j (x / g) := by
  unfold Bg at *
  have e := Int.mul_ediv_add_emod x g
  have h1 := Int.emod_nonneg x (show g ≠ 0 by omega)
  have h2 := Int.emod_lt_of_pos x hg
  rcases Int.lt_or_le x 0 with hx | hx
  · have hq : x / g < 0 := Int.ediv_neg_of_neg_of_pos hx hg
    have : x ≤ x / g := by
      have h3 := Int.mul_le_mul_of_nonneg_left (show x / g + 1 ≤ 0 by omega) (show 0 ≤ g - 1 by omega)
      rw [Int.mul_zero] at h3
      have e3 : (g - 1) * (x / g + 1) = g * (x / g) + g - x / g - 1 := by grind
      omega
    omega
  · have hq : 0 ≤ x / g := Int.ediv_nonneg hx (by omega)
    have : x / g ≤ x := Int.ediv_le_self _ hx
    omega
theorem uval_zero {a b c d : Int} (ha : U64 a) (hb : U64 b) (hc : U64 c) (hd : U64 d) (h : sval a b c d = 0) : a = 0 ∧ b = 0 ∧ c = 0 ∧ d = 0 := by
  unfold U64 at *
  unfold sval uval at h
  split at h <;> omega
theorem W4.ne {x : W4} (h : x.ok) (hn : ¬ (x.a = 0 ∧ x.b = 0 ∧ x.c = 0 ∧ x.d = 0)) : x.v ≠ 0 := fun hz => hn (uval_zero h.1 h.2.1 h.2.2.1 h.2.2.2 hz)
end Go.Proofs.YtaibemhdfhchfaaGreat

/- Points made and halved, as the reference does it. -/
namespace Go.Proofs.YtaibemhdfhchfaaGreat
open Go Go.RowKit

def mkP (x y w : Int) : Pt := if w = 0 then pt0 else pt3 (nrm w x / gcd3 x y w) (nrm w y / gcd3 x y w) (nrm w w / gcd3 x y w)
def mkB (x y w : Int) : Bool := if w = 0 then false else sm (nrm w x / gcd3 x y w) (nrm w y / gcd3 x y w) (nrm w w / gcd3 x y w)
theorem mkP_ok (x y w : Int) : (mkP x y w).ok := by
  unfold mkP; split
  · exact pt0_ok
  · exact pt3_ok _ _ _
theorem good_pos {p : Pt} (h : p.good = true) : 0 < p.w.v := by
  unfold Pt.good at h
  simp only [Bool.and_eq_true, decide_eq_true_eq] at h
  exact h.1.1
theorem v_zero : W4.v ⟨0, 0, 0, 0⟩ = 0 := by decide
end Go.Proofs.YtaibemhdfhchfaaGreat

/- Numbers that are drawn. -/
namespace Go.Proofs.YtaibemhdfhchfaaGreat
open Go Go.RowKit

theorem or_u64 {a b : Int} (ha : U64 a) (hb : U64 b) : U64 (bits .or .u64 a b) := by
  unfold U64 at *
  rw [u64_or a b ha.1 ha.2 hb.1 hb.2]
  have : a.toNat ||| b.toNat < 2 ^ 64 := Nat.or_lt_two_pow (by omega) (by omega)
  omega
theorem wrap_U64 (x : Int) : U64 (IntKind.u64.wrap x) := by unfold U64; rw [wrap_u64m]; omega
def tab7 : List Int := [0, 1, -1, 2, 10, -9223372036854775808, 9223372036854775807]
theorem tab7_b (k : Nat) : -9223372036854775808 ≤ gt tab7 k ∧ gt tab7 k ≤ 9223372036854775807 := by
  have h : ∀ x ∈ tab7, -9223372036854775808 ≤ x ∧ x ≤ 9223372036854775807 := by decide
  unfold gt
  cases hk : tab7[k]? with
  | none => simp
  | some x => exact h x (List.mem_of_getElem? hk)
def tab6 : List W4 := [⟨9223372036854775808, 0, 0, 0⟩, ⟨9223372036854775807, 18446744073709551615, 18446744073709551615, 18446744073709551615⟩, ⟨9223372036854775808, 0, 0, 1⟩, ⟨4611686018427387904, 0, 0, 0⟩, ⟨0, 1, 0, 0⟩, ⟨0, 0, 1, 0⟩]
theorem tab6_get (k : Nat) (h : k < 6) : ∃ x : W4, x.ok ∧ (tab6.map W4.l)[k]? = some (W4.l x) := by
  have hok : ∀ x ∈ tab6, x.ok := by
    intro x hx
    simp only [tab6, List.mem_cons, List.not_mem_nil, or_false] at hx
    rcases hx with rfl | rfl | rfl | rfl | rfl | rfl <;> (unfold W4.ok U64; simp)
  have hk : k < tab6.length := h
  exact ⟨tab6[k], hok _ (List.getElem_mem hk), by rw [List.getElem?_map, List.getElem?_eq_getElem hk]; rfl⟩
end Go.Proofs.YtaibemhdfhchfaaGreat

/- Numbers that are drawn, in four words. -/
namespace Go.Proofs.YtaibemhdfhchfaaGreat
open Go Go.RowKit

theorem wrap_I64 (x : Int) : -9223372036854775808 ≤ IntKind.i64.wrap x ∧ IntKind.i64.wrap x ≤ 9223372036854775807 := by
  simp only [IntKind.wrap, IntKind.bits, IntKind.signed]
  simp
  split <;> omega
theorem dg_one : dg 1 = [1] := by
  have h := dg_of (l := [1]) (Dig.cons (by omega) (by omega) (Dig.nil _))
  simp only [val, Int.mul_zero, Int.add_zero] at h
  rw [← h]
  exact trimW_concat_pos [] 1 (by omega)
theorem shr_U64 {x : Int} (h : U64 x) (n : Nat) : U64 (x.fdiv (2 ^ n)) := by
  unfold U64 at *
  have hp := pow2_pos n
  rw [Int.fdiv_eq_ediv_of_nonneg _ (by omega)]
  have h1 : x / 2 ^ n ≤ x := Int.ediv_le_self _ h.1
  have h2 : 0 ≤ x / 2 ^ n := Int.ediv_nonneg h.1 (by omega)
  omega
theorem bg_pow (n : Nat) (h : n < 256) (b : Bool) : Bg 4 (sg b ((1 * 2 ^ n : Nat) : Int)) := by
  have h1 : (2 : Nat) ^ n < 2 ^ 256 := Nat.pow_lt_pow_right (by omega) h
  have e : (2 : Nat) ^ 256 = 18446744073709551616 ^ 4 := by decide
  have : Bg 4 ((1 * 2 ^ n : Nat) : Int) := by unfold Bg; rw [Int.natAbs_natCast]; omega
  cases b
  · exact this
  · exact this.neg
def gt6 (k : Nat) : W4 := (tab6[k]?).getD ⟨0, 0, 0, 0⟩
theorem gt6_ok (k : Nat) : (gt6 k).ok := by
  unfold gt6
  rcases Nat.lt_or_ge k 6 with h | h
  · obtain ⟨x, hx, he⟩ := tab6_get k h
    have hk : k < tab6.length := h
    rw [List.getElem?_map, List.getElem?_eq_getElem hk] at he
    rw [List.getElem?_eq_getElem hk]
    simp only [Option.map_some, Option.some.injEq, W4.l, List.cons.injEq, AV.int.injEq, true_and, and_true] at he
    obtain ⟨e1, e2, e3, e4⟩ := he
    show (tab6[k]).ok
    unfold W4.ok at *
    rw [e1, e2, e3, e4]; exact hx
  · have : tab6[k]? = none := List.getElem?_eq_none h
    rw [this]; show W4.ok ⟨0, 0, 0, 0⟩
    unfold W4.ok U64; simp
theorem gt6_get (k : Nat) (h : k < 6) : (List.map W4.l tab6)[k]? = some [.int .u64 (gt6 k).a, .int .u64 (gt6 k).b, .int .u64 (gt6 k).c, .int .u64 (gt6 k).d] := by
  have hk : k < tab6.length := h
  unfold gt6
  rw [List.getElem?_map, List.getElem?_eq_getElem hk]; rfl
end Go.Proofs.YtaibemhdfhchfaaGreat

/- Points in order; between; crossings. -/
namespace Go.Proofs.YtaibemhdfhchfaaGreat
open Go Go.RowKit

def cm (a b : Int) : Int := if a < b then -1 else if a > b then 1 else 0
def cmX (p q : Pt) : Int := cm (p.x.v * q.w.v) (q.x.v * p.w.v)
theorem cmX_anti (p q : Pt) : cmX q p = -cmX p q := by unfold cmX cm; split <;> split <;> (try split) <;> (try split) <;> omega
theorem sval_inj {a b c d a' b' c' d' : Int} (ha : U64 a) (hb : U64 b) (hc : U64 c) (hd : U64 d) (ha' : U64 a') (hb' : U64 b') (hc' : U64 c') (hd' : U64 d') (h : sval a b c d = sval a' b' c' d') : a = a' ∧ b = b' ∧ c = c' ∧ d = d' := by
  unfold U64 at *
  unfold sval uval at h
  split at h <;> split at h <;> omega
theorem W4.inj {x y : W4} (hx : x.ok) (hy : y.ok) (h : x.v = y.v) : x = y := by
  have := sval_inj hx.1 hx.2.1 hx.2.2.1 hx.2.2.2 hy.1 hy.2.1 hy.2.2.1 hy.2.2.2 h
  cases x; cases y; simp_all
instance : DecidableEq W4 := fun p q => decidable_of_iff (p.a = q.a ∧ p.b = q.b ∧ p.c = q.c ∧ p.d = q.d) (by cases p; cases q; simp)
instance : DecidableEq Pt := fun p q => decidable_of_iff (p.x = q.x ∧ p.y = q.y ∧ p.w = q.w) (by cases p; cases q; simp)
end Go.Proofs.YtaibemhdfhchfaaGreat

/- Fractions. -/
namespace Go.Proofs.YtaibemhdfhchfaaGreat
open Go Go.RowKit

structure Rt where
  up : W4
  down : W4
def Rt.ok (r : Rt) : Prop := r.up.ok ∧ r.down.ok
def Rt.cells (r : Rt) : List AV := [.int .u64 r.up.a, .int .u64 r.up.b, .int .u64 r.up.c, .int .u64 r.up.d, .int .u64 r.down.a, .int .u64 r.down.b, .int .u64 r.down.c, .int .u64 r.down.d]
def Rt.av (r : Rt) : AV := .agg r.cells
def Rt.good (r : Rt) : Bool := decide (0 < r.down.v) && decide (Int.gcd r.up.v r.down.v = 1)
instance : DecidableEq Rt := fun p q => decidable_of_iff (p.up = q.up ∧ p.down = q.down) (by cases p; cases q; simp)
def W40 : W4 := ⟨0, 0, 0, 0⟩
def Rt0 : Rt := ⟨W40, W40⟩
def rtC (u d : Int) : List AV := [.bool (decide (u < 0)), Wd .u64 (mag u), .bool (decide (d < 0)), Wd .u64 (mag d)]
def rtA (u d : Int) : AV := .agg (rtC u d)
def gg (u d : Int) : Int := ((Int.gcd u d : Nat) : Int)
def lowU (u d : Int) : Int := nrm d u / gg u d
def lowD (u d : Int) : Int := nrm d d / gg u d
def told (u d : Int) : Rt × Bool := if d = 0 then (Rt0, false) else if fits (lowU u d) && fits (lowD u d) then (⟨W4z (lowU u d), W4z (lowD u d)⟩, true) else (Rt0, false)
theorem gg_pos {u d : Int} (h : d ≠ 0) : 0 < gg u d := by
  unfold gg; have := Int.gcd_pos_of_ne_zero_right u h; omega
theorem gg_nrm (u d : Int) : gg (nrm d u) (nrm d d) = gg u d := by
  unfold nrm gg; split
  · simp
  · rfl
theorem gg_l (u d : Int) : gg u d ∣ u := Int.gcd_dvd_left ..
theorem gg_r (u d : Int) : gg u d ∣ d := Int.gcd_dvd_right ..
theorem lowU_mul {u d : Int} : lowU u d * gg u d = nrm d u := by
  unfold lowU; rw [← gg_nrm]; exact Int.ediv_mul_cancel (gg_l _ _)
theorem lowD_mul {u d : Int} : lowD u d * gg u d = nrm d d := by
  unfold lowD; rw [← gg_nrm]; exact Int.ediv_mul_cancel (gg_r _ _)
theorem nrm_pos {d : Int} (h : d ≠ 0) : 0 < nrm d d := by unfold nrm; split <;> omega
theorem lowD_pos {u d : Int} (h : d ≠ 0) : 0 < lowD u d := by
  have e := @lowD_mul u d
  have p := nrm_pos h
  have g := @gg_pos u d h
  rcases Int.lt_or_le 0 (lowD u d) with h' | h'
  · exact h'
  · have := Int.mul_nonpos_of_nonpos_of_nonneg h' (Int.le_of_lt g); omega
theorem nrm_cross (u d : Int) : nrm d u * d = u * nrm d d := by unfold nrm; split <;> grind
theorem low_cross {u d : Int} (h : d ≠ 0) : lowU u d * d = u * lowD u d := by
  have e1 := @lowU_mul u d
  have e2 := @lowD_mul u d
  have e3 := nrm_cross u d
  rw [← e1, ← e2] at e3
  have : lowU u d * d * gg u d = u * lowD u d * gg u d := by grind
  exact Int.eq_of_mul_eq_mul_right (by have := @gg_pos u d h; omega) this
theorem low_red {u d : Int} (h : d ≠ 0) : Int.gcd (lowU u d) (lowD u d) = 1 := by
  unfold lowU lowD
  rw [← gg_nrm]
  have := gg_pos (u := nrm d u) (d := nrm d d) (by have := nrm_pos h; omega)
  exact Int.gcd_ediv_gcd_ediv_gcd (by unfold gg at this; omega)
theorem red_uniq {U D U' D' : Int} (hD : 0 < D) (hD' : 0 < D') (r : Int.gcd U D = 1) (r' : Int.gcd U' D' = 1) (e : U * D' = U' * D) : U = U' ∧ D = D' := by
  have n : U.natAbs * D'.natAbs = U'.natAbs * D.natAbs := by rw [← Int.natAbs_mul, ← Int.natAbs_mul, e]
  have c : Nat.Coprime U.natAbs D.natAbs := r
  have c' : Nat.Coprime U'.natAbs D'.natAbs := r'
  have d1 : D.natAbs ∣ D'.natAbs := c.symm.dvd_of_dvd_mul_left ⟨U'.natAbs, by rw [n, Nat.mul_comm]⟩
  have d2 : D'.natAbs ∣ D.natAbs := c'.symm.dvd_of_dvd_mul_left ⟨U.natAbs, by rw [← n, Nat.mul_comm]⟩
  have ed : D = D' := by have := Nat.dvd_antisymm d1 d2; omega
  subst ed
  exact ⟨Int.eq_of_mul_eq_mul_right (by omega) e, rfl⟩
theorem low_uniq {u d U D : Int} (h : d ≠ 0) (hD : 0 < D) (r : Int.gcd U D = 1) (e : U * d = u * D) : lowU u d = U ∧ lowD u d = D := by
  refine red_uniq (lowD_pos h) hD (low_red h) r ?_
  have c := @low_cross u d h
  have : lowU u d * D * d = U * lowD u d * d := by grind
  exact Int.eq_of_mul_eq_mul_right h this
theorem told_fit {u d : Int} (h : d ≠ 0) : told u d = if fits (lowU u d) && fits (lowD u d) then (⟨W4z (lowU u d), W4z (lowD u d)⟩, true) else (Rt0, false) := by unfold told; rw [if_neg h]
end Go.Proofs.YtaibemhdfhchfaaGreat

/- Spots and segments; where two segments meet. -/
namespace Go.Proofs.YtaibemhdfhchfaaGreat
open Go Go.RowKit

structure Sp where
  x : Int
  y : Int
instance : DecidableEq Sp := fun p q => decidable_of_iff (p.x = q.x ∧ p.y = q.y) (by cases p; cases q; simp)
structure Sg where
  a : Sp
  b : Sp
def I64 (x : Int) : Prop := -9223372036854775808 ≤ x ∧ x ≤ 9223372036854775807
def Sp.ok (p : Sp) : Prop := I64 p.x ∧ I64 p.y
def Sg.ok (s : Sg) : Prop := s.a.ok ∧ s.b.ok
def Sp.cells (p : Sp) : List AV := [.int .i64 p.x, .int .i64 p.y]
def Sp.av (p : Sp) : AV := .agg p.cells
def Sg.cells (s : Sg) : List AV := [.int .i64 s.a.x, .int .i64 s.a.y, .int .i64 s.b.x, .int .i64 s.b.y]
def Sg.av (s : Sg) : AV := .agg s.cells
def inM (x : Int) : Bool := decide (-1000000 ≤ x) && decide (x ≤ 1000000)
def Sp.good (p : Sp) : Bool := inM p.x && inM p.y
def lsS (p q : Sp) : Bool := decide (p.x < q.x) || (decide (p.x = q.x) && decide (p.y < q.y))
def Sg.good (s : Sg) : Bool := s.a.good && (s.b.good && lsS s.a s.b)
def cmS (p q : Sp) : Int := if p = q then 0 else if lsS p q = true then -1 else 1
def crs (a b c : Sp) : Int := (b.x - a.x) * (c.y - a.y) - (b.y - a.y) * (c.x - a.x)
theorem inM_b {x : Int} (h : inM x = true) : -1000000 ≤ x ∧ x ≤ 1000000 := by simp [inM] at h; exact h
theorem Sp.b {p : Sp} (h : p.good = true) : -1000000 ≤ p.x ∧ p.x ≤ 1000000 ∧ -1000000 ≤ p.y ∧ p.y ≤ 1000000 := by
  simp only [Sp.good, Bool.and_eq_true] at h
  exact ⟨(inM_b h.1).1, (inM_b h.1).2, (inM_b h.2).1, (inM_b h.2).2⟩
theorem mul_b {u v m n : Int} (hm : 0 ≤ m) (h1 : -m ≤ u) (h2 : u ≤ m) (h3 : -n ≤ v) (h4 : v ≤ n) : -(m * n) ≤ u * v ∧ u * v ≤ m * n := by
  have hn : 0 ≤ n := by omega
  have a : (u * v).natAbs ≤ (m * n).natAbs := by
    rw [Int.natAbs_mul, Int.natAbs_mul]; exact Nat.mul_le_mul (by omega) (by omega)
  have := Int.mul_nonneg hm hn
  omega
theorem cmS_neg {p q : Sp} : cmS p q < 0 ↔ lsS p q = true := by
  unfold cmS; split
  · rename_i h; subst h; simp [lsS]
  · split <;> simp_all
def lowS (s t : Sg) : Sp := if lsS s.a t.a = true then t.a else s.a
def highS (s t : Sg) : Sp := if lsS t.b s.b = true then t.b else s.b
def mn (a b : Int) : Int := if b < a then b else a
def mx (a b : Int) : Int := if a < b then b else a
/-- Apart: the boxes have nothing in common. -/
def apart (s t : Sg) : Bool := decide (mn s.b.x t.b.x < mx s.a.x t.a.x) || decide (mn (mx s.a.y s.b.y) (mx t.a.y t.b.y) < mx (mn s.a.y s.b.y) (mn t.a.y t.b.y))
def ptS (p : Sp) : Pt := pt3 p.x p.y 1
def linP (s t : Sg) : Int × Pt × Pt := if lsS (highS s t) (lowS s t) = true then (0, pt0, pt0) else if lowS s t = highS s t then (1, ptS (lowS s t), pt0) else (2, ptS (lowS s t), ptS (highS s t))
def wayW (s t : Sg) : Int := crs s.a s.b t.a - crs s.a s.b t.b
def wayX (s t : Sg) : Int := t.a.x * wayW s t + crs s.a s.b t.a * (t.b.x - t.a.x)
def wayY (s t : Sg) : Int := t.a.y * wayW s t + crs s.a s.b t.a * (t.b.y - t.a.y)
def noWay (s t : Sg) : Bool := decide (0 < sg3 (crs s.a s.b t.a) * sg3 (crs s.a s.b t.b)) || decide (0 < sg3 (crs t.a t.b s.a) * sg3 (crs t.a t.b s.b))
def meetI (s t : Sg) : Int × Pt × Pt := if apart s t then (0, pt0, pt0) else if crs s.a s.b t.a = 0 ∧ crs s.a s.b t.b = 0 then linP s t else if noWay s t then (0, pt0, pt0) else (1, mkP (wayX s t) (wayY s t) (wayW s t), pt0)
theorem good_a {s : Sg} (h : s.good = true) : s.a.good = true := by simp only [Sg.good, Bool.and_eq_true] at h; exact h.1
theorem good_b {s : Sg} (h : s.good = true) : s.b.good = true := by simp only [Sg.good, Bool.and_eq_true] at h; exact h.2.1
end Go.Proofs.YtaibemhdfhchfaaGreat

/- Rings: their sides, what is not right in them, their areas. -/
namespace Go.Proofs.YtaibemhdfhchfaaGreat
open Go Go.RowKit

def sp0 : Sp := ⟨0, 0⟩
def gs (r : List Sp) (i : Nat) : Sp := r.getD i sp0
def segO (a b : Sp) : Sg := if lsS b a = true then ⟨b, a⟩ else ⟨a, b⟩
def nx1 (r : List Sp) (i : Nat) : Sp := gs r ((i + 1) % r.length)
def sd (r : List Sp) (i : Nat) : Sg := segO (gs r i) (nx1 r i)
def mkd (r : List Sp) (i k : Nat) : Int := (meetI (sd r i) (sd r k)).1
def nxt (n i k : Nat) : Prop := k + 1 = i ∨ (k = 0 ∧ i + 1 = n)
def rgDup (r : List Sp) : Prop := ∃ i k, k < i ∧ i < r.length ∧ gs r i = gs r k
def rgX (r : List Sp) : Prop := ∃ i k, k < i ∧ i < r.length ∧ (mkd r i k = 2 ∨ (mkd r i k = 1 ∧ ¬ nxt r.length i k))
def spsGood (r : List Sp) : Prop := ∀ p ∈ r, p.good = true
noncomputable def dec (p : Prop) : Bool := @decide p (Classical.propDecidable p)
theorem dec_t {p : Prop} (h : p) : dec p = true := by unfold dec; exact @decide_eq_true p (Classical.propDecidable p) h
theorem dec_f {p : Prop} (h : ¬ p) : dec p = false := by unfold dec; exact @decide_eq_false p (Classical.propDecidable p) h
theorem dec_n {p : Prop} (h : ¬ p) : ¬ dec p = true := by rw [dec_f h]; simp
theorem dec_iff {p : Prop} : dec p = true ↔ p := by
  constructor
  · intro h; exact Classical.byContradiction fun hn => by rw [dec_f hn] at h; simp at h
  · exact dec_t
theorem beqdI (a b : Int) : (a == b) = decide (a = b) := by rw [Bool.eq_iff_iff]; simp
noncomputable def rgF (r : List Sp) : Int := if r.length < 3 then 1 else if 12 < r.length then 2 else if dec (¬ spsGood r) = true then 3 else if dec (rgDup r) = true then 4 else if dec (rgX r) = true then 5 else 0
/-- Have the sides of two rings a point in common? -/
def rgsMeet (a b : List Sp) : Prop := ∃ i k, i < a.length ∧ k < b.length ∧ (meetI (sd a i) (sd b k)).1 ≠ 0
noncomputable def rgsM (a b : List Sp) : Bool := dec (rgsMeet a b)
end Go.Proofs.YtaibemhdfhchfaaGreat

/- Segments that have ends in common. -/
namespace Go.Proofs.YtaibemhdfhchfaaGreat
open Go Go.RowKit

def shr (s t : Sg) : Prop := s.a = t.a ∨ s.a = t.b ∨ s.b = t.a ∨ s.b = t.b
theorem sp_sm {p : Sp} (h : p.good = true) : sm p.x p.y 1 = true := by
  have := Sp.b h
  have e : (2 : Nat) ^ 80 = 1208925819614629174706176 := by decide
  simp only [sm, Bool.and_eq_true, decide_eq_true_eq, bitLen_le, e]; omega
theorem ptS_good {p : Sp} (h : p.good = true) : ptS p = ⟨W4z p.x, W4z p.y, W4z 1⟩ := by
  unfold ptS pt3; rw [if_pos (sp_sm h)]
theorem sp_fits {x : Int} (h : -1000000 ≤ x ∧ x ≤ 1000000) : fits x = true := by unfold fits; simp; omega
theorem ptS_v {p : Sp} (h : p.good = true) : (ptS p).x.v = p.x ∧ (ptS p).y.v = p.y ∧ (ptS p).w.v = 1 := by
  have := Sp.b h
  rw [ptS_good h]
  exact ⟨W4z_v (sp_fits (by omega)), W4z_v (sp_fits (by omega)), W4z_v (by decide)⟩
def gg0 : Sg := ⟨sp0, sp0⟩
def gse (L : List Sg) (i : Nat) : Sg := L.getD i gg0
theorem gse_get {r : List Sg} {i : Nat} (h : i < r.length) : r[i]? = some (gse r i) := by simp [gse, h]
theorem gse_mem {r : List Sg} {i : Nat} (h : i < r.length) : gse r i ∈ r := List.mem_of_getElem? (gse_get h)
/-- What is not right in segments. -/
def sgGood (L : List Sg) : Prop := ∀ s ∈ L, s.good = true
noncomputable def sgF (L : List Sg) : Int := if 40 < L.length then 1 else if dec (sgGood L) = true then 0 else 2
theorem sgF_many {L : List Sg} (h : 40 < L.length) : sgF L = 1 := by unfold sgF; rw [if_pos h]
theorem sgF_bad {L : List Sg} (h : ¬ 40 < L.length) {s : Sg} (hs : s ∈ L) (hg : ¬ s.good = true) : sgF L = 2 := by unfold sgF; rw [if_neg h, if_neg (dec_n fun k => hg (k s hs))]
theorem sgF_ok {L : List Sg} (h : ¬ 40 < L.length) (hg : sgGood L) : sgF L = 0 := by unfold sgF; rw [if_neg h, if_pos (dec_t hg)]
theorem sgF_zero {L : List Sg} (h : sgF L = 0) : L.length ≤ 40 ∧ sgGood L := by
  unfold sgF at h
  split at h
  · omega
  · split at h
    · rename_i h2; exact ⟨by omega, dec_iff.1 h2⟩
    · omega
end Go.Proofs.YtaibemhdfhchfaaGreat

/- Quiet segments, asked. -/
namespace Go.Proofs.YtaibemhdfhchfaaGreat
open Go Go.RowKit

theorem sgGood_of {L : List Sg} {n : Nat} (hn : n = L.length) (h : ∀ j, j < n → (gse L j).good = true) : sgGood L := by
  intro s hs
  obtain ⟨i, hi⟩ := List.getElem?_of_mem hs
  have hl := (List.getElem?_eq_some_iff.1 hi).1
  rw [gse_get hl] at hi
  rw [← Option.some.inj hi]; exact h i (by omega)
end Go.Proofs.YtaibemhdfhchfaaGreat

/- Areas of loops: fractions in lowest terms, added one by one. -/
namespace Go.Proofs.YtaibemhdfhchfaaGreat
open Go Go.RowKit

def addQ (p q : Int × Int) : Int × Int := (lowU (p.1 * q.2 + q.1 * p.2) (p.2 * q.2), lowD (p.1 * q.2 + q.1 * p.2) (p.2 * q.2))
def gp (l : List Pt) (i : Nat) : Pt := l.getD i pt0
/-- A fraction in lowest terms, its divisor above 0. -/
def redQ (p : Int × Int) : Prop := 0 < p.2 ∧ Int.gcd p.1 p.2 = 1
theorem redQ.low {p : Int × Int} (h : redQ p) : lowU p.1 p.2 = p.1 ∧ lowD p.1 p.2 = p.2 := low_uniq (by have := h.1; omega) h.1 h.2 rfl
/-- The same fraction by other numbers. -/
def eqQ (u d : Int) (p : Int × Int) : Prop := 0 < d ∧ u * p.2 = p.1 * d
theorem eqQ.low {u d : Int} {p : Int × Int} (h : eqQ u d p) (hr : redQ p) : lowU u d = p.1 ∧ lowD u d = p.2 := low_uniq (by have := h.1; omega) hr.1 hr.2 h.2.symm
theorem eqQ.step {u d c w : Int} {p : Int × Int} (h : eqQ u d p) (hr : redQ p) (hw : 0 < w) : eqQ (u * (w / gg d w) + c * (d / gg d w)) (d * (w / gg d w)) (addQ p (c, w)) := by
  obtain ⟨hd, he⟩ := h
  have hg := gg_pos (u := d) (d := w) (by omega)
  have k1 : w / gg d w * gg d w = w := Int.ediv_mul_cancel (gg_r d w)
  have m1 : d / gg d w * gg d w = d := Int.ediv_mul_cancel (gg_l d w)
  generalize gg d w = g at *
  generalize w / g = k at *
  generalize d / g = m at *
  have hk : 0 < k := by
    rcases Int.lt_trichotomy k 0 with h0 | h0 | h0
    · have := Int.mul_neg_of_neg_of_pos h0 hg; omega
    · subst h0; omega
    · exact h0
  refine ⟨Int.mul_pos hd hk, ?_⟩
  have hpw : p.2 * w ≠ 0 := Int.mul_ne_zero (by have := hr.1; omega) (by omega)
  have lc := low_cross (u := p.1 * w + c * p.2) hpw
  have lc : (addQ p (c, w)).1 * (p.2 * w) = (p.1 * w + c * p.2) * (addQ p (c, w)).2 := lc
  generalize (addQ p (c, w)).1 = U at *
  generalize (addQ p (c, w)).2 = D at *
  refine Int.eq_of_mul_eq_mul_right hpw ?_
  have e1 : U * (d * k) * (p.2 * w) = (U * (p.2 * w)) * (d * k) := by grind
  rw [e1, lc, ← k1, ← m1]
  have he2 : u * p.2 = p.1 * (m * g) := by rw [m1]; exact he
  have e2 : (u * k + c * m) * D * (p.2 * (k * g)) = (D * k * g) * (k * (u * p.2) + c * m * p.2) := by grind
  rw [e2, he2]
  grind
theorem eqQ.one : eqQ 0 1 (0, 1) := ⟨by decide, rfl⟩
end Go.Proofs.YtaibemhdfhchfaaGreat

/- Rings turned. -/
namespace Go.Proofs.YtaibemhdfhchfaaGreat
open Go Go.RowKit

/-- Rows of two numbers, as they are marked. -/
def m2 (k : Int) (j : Nat) : List AV := [.int .i64 (k + 2 * (j : Int)), .int .i64 (k + 2 * (j : Int) + 1)]
end Go.Proofs.YtaibemhdfhchfaaGreat

/- Points halved, squares of distances: the plain laws. -/
namespace Go.Proofs.YtaibemhdfhchfaaGreat
open Go Go.RowKit

theorem told_scale {u d u' d' : Int} (h : d ≠ 0) (h' : d' ≠ 0) (e : u * d' = u' * d) : told u d = told u' d' := by
  have c := @low_cross u' d' h'
  obtain ⟨e1, e2⟩ := low_uniq (u := u) (d := d) h (lowD_pos (u := u') h') (low_red h') (by
    have : lowU u' d' * d * d' = u * lowD u' d' * d' := by grind
    exact Int.eq_of_mul_eq_mul_right h' this)
  rw [told_fit h, told_fit h', e1, e2]
theorem gcd3_dvd (x y w : Int) : gcd3 x y w ∣ x ∧ gcd3 x y w ∣ y ∧ gcd3 x y w ∣ w := by
  unfold gcd3
  have h1 : ((Nat.gcd (Int.gcd x y) w.natAbs : Nat) : Int) ∣ ((Int.gcd x y : Nat) : Int) := Int.ofNat_dvd.2 (Nat.gcd_dvd_left _ _)
  exact ⟨Int.dvd_trans h1 (Int.gcd_dvd_left ..), Int.dvd_trans h1 (Int.gcd_dvd_right ..), Int.dvd_natAbs.1 (Int.ofNat_dvd.2 (Nat.gcd_dvd_right _ _))⟩
def dX (p q : Pt) : Int := p.x.v * q.w.v - q.x.v * p.w.v
def dY (p q : Pt) : Int := p.y.v * q.w.v - q.y.v * p.w.v
def dN (p q : Pt) : Int := dX p q * dX p q + dY p q * dY p q
def dD (p q : Pt) : Int := (p.w.v * q.w.v) * (p.w.v * q.w.v)
def d2F (p q : Pt) : Rt × Bool := if (p.good && q.good) = true then told (dN p q) (dD p q) else (Rt0, false)
theorem d2F_good {p q : Pt} (hp : p.good = true) (hq : q.good = true) : d2F p q = told (dN p q) (dD p q) := by unfold d2F; rw [hp, hq]; rfl
theorem dD_pos {p q : Pt} (hp : p.good = true) (hq : q.good = true) : 0 < dD p q := by
  have := Int.mul_pos (good_pos hp) (good_pos hq)
  exact Int.mul_pos this this
/-- What a middle is. -/
structure Mid (p q m : Pt) : Prop where
  gp : p.good = true
  gq : q.good = true
  gm : m.good = true
  hx : m.x.v * (2 * (p.w.v * q.w.v)) = (p.x.v * q.w.v + q.x.v * p.w.v) * m.w.v
  hy : m.y.v * (2 * (p.w.v * q.w.v)) = (p.y.v * q.w.v + q.y.v * p.w.v) * m.w.v
section
variable {p q m : Pt} (M : Mid p q m)
include M
theorem Mid.dx1 : dX p m * (2 * (p.w.v * q.w.v)) = dX p q * (m.w.v * p.w.v) := by have := M.hx; unfold dX; grind
theorem Mid.dy1 : dY p m * (2 * (p.w.v * q.w.v)) = dY p q * (m.w.v * p.w.v) := by have := M.hy; unfold dY; grind
theorem Mid.dx2 : dX m q * (2 * (p.w.v * q.w.v)) = dX p q * (m.w.v * q.w.v) := by have := M.hx; unfold dX; grind
theorem Mid.dy2 : dY m q * (2 * (p.w.v * q.w.v)) = dY p q * (m.w.v * q.w.v) := by have := M.hy; unfold dY; grind
theorem Mid.d1 : d2F p m = told (dN p q) (4 * dD p q) := by
  rw [d2F_good M.gp M.gm]
  have a := dD_pos M.gp M.gq
  have b := dD_pos M.gp M.gm
  have h1 := M.dx1
  have h2 := M.dy1
  refine told_scale (by omega) (by omega) ?_
  unfold dN dD; grind
theorem Mid.d2 : d2F m q = told (dN p q) (4 * dD p q) := by
  rw [d2F_good M.gm M.gq]
  have a := dD_pos M.gp M.gq
  have b := dD_pos M.gm M.gq
  have h1 := M.dx2
  have h2 := M.dy2
  refine told_scale (by omega) (by omega) ?_
  unfold dN dD; grind
end
end Go.Proofs.YtaibemhdfhchfaaGreat

/- A segment over a point: the plain law. -/
namespace Go.Proofs.YtaibemhdfhchfaaGreat
open Go Go.RowKit

def sdZ (s : Sg) (p : Pt) : Int := (s.b.x - s.a.x) * (p.y.v - s.a.y * p.w.v) - (s.b.y - s.a.y) * (p.x.v - s.a.x * p.w.v)
def sdF (s : Sg) (p : Pt) : Int := sg3 (sdZ s p)
def ovX (a : Sp) (p : Pt) : Int := cm p.x.v (a.x * p.w.v)
def ovY (a : Sp) (p : Pt) : Int := cm p.y.v (a.y * p.w.v)
def ovI (s : Sg) (p : Pt) : Int := if ovX s.a p < 0 ∨ 0 < ovX s.b p then 2 else if s.a.x < s.b.x then -(sdF s p) else if ovY s.a p < 0 then 1 else if 0 < ovY s.b p then -1 else 0
def ovF (s : Sg) (p : Pt) : Int := if (s.good && p.good) = true then ovI s p else 2
theorem sdF_b (s : Sg) (p : Pt) : -1 ≤ sdF s p ∧ sdF s p ≤ 1 := sg3_b _
theorem cmX_spot {a : Sp} (ha : a.good = true) (p : Pt) : cmX p (ptS a) = ovX a p := by
  obtain ⟨v1, v2, v3⟩ := ptS_v ha
  unfold cmX ovX; rw [v1, v3, Int.mul_one]
end Go.Proofs.YtaibemhdfhchfaaGreat

/- Layers: faults, sides, depths, areas. -/
namespace Go.Proofs.YtaibemhdfhchfaaGreat
open Go Go.RowKit

def gr (L : List (List Sp)) (i : Nat) : List Sp := L.getD i []
def lyN : List (List Sp) → Nat
  | [] => 0
  | r :: R => r.length + lyN R
structure LyOk (L : List (List Sp)) : Prop where
  len : L.length ≤ 6
  spots : lyN L ≤ 20
  ok : ∀ r ∈ L, rgF r = 0
  apart : ∀ i k, i < L.length → k < L.length → k ≠ i → rgsM (gr L i) (gr L k) = false
/-! Where a point lies to a layer. -/
/-! Depths. -/
/-! Areas. -/
end Go.Proofs.YtaibemhdfhchfaaGreat

/- Rows of one's own that are sorted, by the kit's plain sort. -/
namespace Go.Proofs.YtaibemhdfhchfaaGreat
open Go Go.RowKit

section
variable {α : Type}
def rwA (c : α → List AV) (d : Array α) : List (List AV) := d.toList.map c
theorem rwA_len (c : α → List AV) (d : Array α) : (rwA c d).length = d.size := by simp [rwA]
end
section
variable {α : Type} [Inhabited α]
/-- The element at a place. -/
def gA (d : Array α) (i : Nat) : α := d[i]!
theorem rwA_get {c : α → List AV} {d : Array α} {i : Nat} (h : i < d.size) : (rwA c d)[i]? = some (c (gA d i)) := by
  simp only [gA] at *
  simp [rwA, h]
theorem rwA_swp {c : α → List AV} {d : Array α} {i j : Nat} : ((rwA c d).set i (c (gA d j))).set j (c (gA d i)) = rwA c (Sort.swp d i j) := by
  simp only [gA] at *
  simp [rwA, Sort.swp, List.map_set]
theorem rwA_row {c : α → List AV} {d : Array α} {i j z : Nat} {x : List AV} (hc : ∀ x, (c x).length = z) (hi : i < d.size) (hj : j < d.size) (hx : x.length = z) : ∃ row, ((rwA c d).set i x)[j]? = some row ∧ row.length = z := by
  by_cases h : i = j
  · subst h
    exact ⟨x, by rw [List.getElem?_set_self (by rw [rwA_len]; exact hi)], hx⟩
  · exact ⟨c d[j]!, by rw [List.getElem?_set_ne h]; exact rwA_get hj, hc _⟩
/-- A comparison that only computes. -/
def CmpF (P : Program) (f : FuncId) (caps : List AV) (av : α → AV) (cv : α → α → Int) : Prop := hasBody P f = true ∧ ∀ x y, FC P f (av x :: av y :: caps) (.int .i64 (cv x y))
def ltc (cv : α → α → Int) : α → α → Bool := fun x y => decide (cv x y < 0)
variable (lt : α → α → Bool)
theorem insInner_pos {a j : Nat} {d : Array α} (h : a < j) (hl : lt (gA d j) (gA d (j - 1)) = true) : Sort.insInner lt a j d = Sort.insInner lt a (j - 1) (Sort.swp d j (j - 1)) := by
  simp only [gA] at *
  obtain ⟨j, rfl⟩ : ∃ k, j = k + 1 := ⟨j - 1, by omega⟩
  simp only [Nat.add_sub_cancel] at hl ⊢
  rw [Sort.insInner, if_pos (by simp [h, hl])]
theorem insInner_neg {a j : Nat} {d : Array α} (h : ¬ (a < j ∧ lt (gA d j) (gA d (j - 1)) = true)) : Sort.insInner lt a j d = d := by
  simp only [gA] at *
  cases j with
  | zero => rfl
  | succ j =>
    simp only [Nat.add_sub_cancel] at h
    rw [Sort.insInner, if_neg (by simpa using h)]
theorem insOuter_pos {a b i : Nat} {d : Array α} (h : i < b) : Sort.insOuter lt a b i d = Sort.insOuter lt a b (i + 1) (Sort.insInner lt a i d) := by
  rw [Sort.insOuter, if_pos h]
theorem insOuter_neg {a b i : Nat} {d : Array α} (h : ¬ i < b) : Sort.insOuter lt a b i d = d := by
  rw [Sort.insOuter, if_neg h]
end
end Go.Proofs.YtaibemhdfhchfaaGreat

/- Segments in order: the sides of a layer. -/
namespace Go.Proofs.YtaibemhdfhchfaaGreat
open Go Go.RowKit

/-- The first number that is not 0. -/
def orL : List Int → Int
  | [] => 0
  | x :: r => if x ≠ 0 then x else orL r
theorem orL_step {l : List Int} {i : Nat} (h : i < l.length) : orL (l.drop i) = if gt l i ≠ 0 then gt l i else orL (l.drop (i + 1)) := by
  rw [List.drop_eq_getElem_cons h, orL, gt_of (List.getElem?_eq_getElem h)]
instance : Inhabited Sg := ⟨⟨⟨0, 0⟩, ⟨0, 0⟩⟩⟩
/-- The first place that is not less. -/
def insK {α : Type} (lt : α → α → Bool) (s : α) : List α → Nat
  | [] => 0
  | x :: r => if lt x s = true then insK lt s r + 1 else 0
def insA {α : Type} (lt : α → α → Bool) (l : List α) (s : α) : List α := l.take (insK lt s l) ++ s :: l.drop (insK lt s l)
theorem insA_perm {α : Type} (lt : α → α → Bool) (l : List α) (s : α) : (insA lt l s).Perm (s :: l) := by
  unfold insA
  refine List.perm_middle.trans ?_
  rw [List.take_append_drop]
theorem insA_len {α : Type} (lt : α → α → Bool) (l : List α) (s : α) : (insA lt l s).length = l.length + 1 := by rw [(insA_perm lt l s).length_eq]; rfl
theorem insA_cons {α : Type} (lt : α → α → Bool) (x : α) (r : List α) (s : α) : insA lt (x :: r) s = if lt x s = true then x :: insA lt r s else s :: x :: r := by
  unfold insA; rw [insK]
  split <;> simp
theorem insA_srt {α : Type} {lt : α → α → Bool} [Inhabited α] (hs : Sort.SWO lt) (s : α) : ∀ (l : List α), l.Pairwise (fun x y => lt y x = false) → (insA lt l s).Pairwise (fun x y => lt y x = false)
  | [], _ => by simp [insA, insK]
  | x :: r, h => by
    rw [List.pairwise_cons] at h
    rw [insA_cons]
    split
    · rename_i hx
      rw [List.pairwise_cons]
      refine ⟨fun y hy => ?_, insA_srt hs s r h.2⟩
      rcases List.mem_cons.1 ((insA_perm lt r s).mem_iff.1 hy) with rfl | hy
      · cases e : lt y x with
        | false => rfl
        | true => have := hs.trans _ _ _ e hx; rw [hs.irrefl] at this; simp at this
      · exact h.1 y hy
    · rename_i hx
      have hx' : lt x s = false := by simpa using hx
      rw [List.pairwise_cons, List.pairwise_cons]
      refine ⟨fun y hy => ?_, h⟩
      rcases List.mem_cons.1 hy with rfl | hy
      · exact hx'
      · exact hs.ntrans _ _ _ (h.1 y hy) hx'
/-- A row that is put in order one by one. -/
def insL {α : Type} (lt : α → α → Bool) : List α → List α → List α
  | acc, [] => acc
  | acc, s :: r => insL lt (insA lt acc s) r
theorem insL_app {α : Type} (lt : α → α → Bool) : ∀ (l r acc : List α), insL lt acc (l ++ r) = insL lt (insL lt acc l) r
  | [], _, _ => rfl
  | s :: l, r, acc => insL_app lt l r (insA lt acc s)
theorem insL_perm {α : Type} (lt : α → α → Bool) : ∀ (l acc : List α), (insL lt acc l).Perm (acc ++ l)
  | [], acc => by simp [insL]
  | s :: l, acc => (insL_perm lt l (insA lt acc s)).trans (((insA_perm lt acc s).append_right l).trans (by simpa using (List.perm_middle (l₁ := acc) (a := s) (l₂ := l)).symm))
theorem insL_srt {α : Type} {lt : α → α → Bool} [Inhabited α] (hs : Sort.SWO lt) : ∀ (l acc : List α), acc.Pairwise (fun x y => lt y x = false) → (insL lt acc l).Pairwise (fun x y => lt y x = false)
  | [], _, h => h
  | s :: l, acc, h => insL_srt hs l _ (insA_srt hs s acc h)
theorem insK_at {α : Type} {lt : α → α → Bool} {s : α} : ∀ {l : List α} {k : Nat} {x : α}, (∀ j, j < k → ∃ y, l[j]? = some y ∧ lt y s = true) → l[k]? = some x → lt x s = false → insK lt s l = k
  | [], k, x, _, h, _ => by simp at h
  | y :: r, 0, x, _, h, hx => by
    simp only [List.getElem?_cons_zero, Option.some.injEq] at h; subst h
    rw [insK, if_neg (by rw [hx]; simp)]
  | y :: r, k + 1, x, hj, h, hx => by
    obtain ⟨z, hz, hl⟩ := hj 0 (by omega)
    simp only [List.getElem?_cons_zero, Option.some.injEq] at hz; subst hz
    rw [insK, if_pos hl, insK_at (l := r) (k := k) (x := x) (fun j h => by simpa using hj (j + 1) (by omega)) (by simpa using h) hx]
theorem insK_end {α : Type} {lt : α → α → Bool} {s : α} : ∀ {l : List α}, (∀ j, j < l.length → ∃ y, l[j]? = some y ∧ lt y s = true) → insK lt s l = l.length
  | [], _ => rfl
  | y :: r, hj => by
    obtain ⟨z, hz, hl⟩ := hj 0 (by simp)
    simp only [List.getElem?_cons_zero, Option.some.injEq] at hz; subst hz
    rw [insK, if_pos hl, insK_end (l := r) (fun j h => by simpa using hj (j + 1) (by simpa using h))]; rfl
theorem insK_stop {α : Type} {lt : α → α → Bool} {s x0 : α} {l : List α} {k : Nat} (h : ∀ j, j < k → ∃ y, l[j]? = some y ∧ lt y s = true) (hk : k ≤ l.length) (hn : ¬ (k < l.length ∧ lt (l.getD k x0) s = true)) : insK lt s l = k := by
  rcases Nat.lt_or_ge k l.length with h1 | h1
  · refine insK_at (x := l.getD k x0) h (by simp [h1]) ?_
    cases e : lt (l.getD k x0) s with
    | false => rfl
    | true => exact absurd ⟨h1, e⟩ hn
  · have e : k = l.length := by omega
    subst e
    exact insK_end h
theorem ins_rows {α β : Type} {lt : α → α → Bool} {s : α} {A : List α} {k : Nat} (c : α → β) (h : insK lt s A = k) : (A.map c).take k ++ [c s] ++ (A.map c).drop k = (insA lt A s).map c := by
  unfold insA
  rw [h, List.map_append, List.map_cons, List.map_take, List.map_drop, List.append_assoc]; rfl
theorem getD_at {α : Type} {l : List α} {k : Nat} {x0 : α} (h : k < l.length) : l[k]? = some (l.getD k x0) := by simp [h]
theorem insL_snoc {α : Type} (lt : α → α → Bool) (l : List α) (s : α) : insL lt [] (l ++ [s]) = insA lt (insL lt [] l) s := by rw [insL_app]; rfl
end Go.Proofs.YtaibemhdfhchfaaGreat

/- The status: segments that stand over one place, from low to high. -/
namespace Go.Proofs.YtaibemhdfhchfaaGreat
open Go Go.RowKit

def stD (s : Sg) : Int := s.b.x - s.a.x
def stH (s : Sg) (p : Pt) : Int := s.a.y * stD s * p.w.v + (p.x.v - s.a.x * p.w.v) * (s.b.y - s.a.y)
def stC (p : Pt) (s t : Sg) : Int := cm (stH s p * stD t) (stH t p * stD s)
def stR (s t : Sg) : Int := (s.b.y - s.a.y) * (t.b.x - t.a.x) - (t.b.y - t.a.y) * (s.b.x - s.a.x)
/-- The comparison. -/
def stV (p : Pt) (s t : Sg) (i k : Nat) : Int := orL [stC p s t, sg3 (stR s t), (i : Int) - (k : Int)]
/-- Does a segment stand there? -/
def stB (s : Sg) (p : Pt) : Bool := decide (s.a.x < s.b.x) && (decide (0 ≤ ovX s.a p) && decide (ovX s.b p < 0))
def gq (L : List Sg) (i : Nat) : Sg := L.getD i ⟨⟨0, 0⟩, ⟨0, 0⟩⟩
theorem gq_get {L : List Sg} {i : Nat} (h : i < L.length) : L[i]? = some (gq L i) := by simp [gq, h]
theorem gq_mem {L : List Sg} {i : Nat} (h : i < L.length) : gq L i ∈ L := by
  have := gq_get h
  exact List.mem_of_getElem? this
/-- Those that stand there. -/
def svL (L : List Sg) (p : Pt) (n : Nat) : List Nat := (List.range n).filter fun i => stB (gq L i) p
theorem svL_step (L : List Sg) (p : Pt) (i : Nat) : svL L p (i + 1) = if stB (gq L i) p = true then svL L p i ++ [i] else svL L p i := by
  unfold svL
  rw [List.range_succ, List.filter_append]
  split
  · rename_i h; simp [h]
  · rename_i h; simp [h]
theorem svL_mem {L : List Sg} {p : Pt} {n i : Nat} : i ∈ svL L p n ↔ i < n ∧ stB (gq L i) p = true := by simp [svL]
theorem svL_len (L : List Sg) (p : Pt) (n : Nat) : (svL L p n).length ≤ n := by
  have := List.length_filter_le (fun i => stB (gq L i) p) (List.range n)
  simpa [svL] using this
theorem cm_neg {a b : Int} : cm a b < 0 ↔ a < b := by unfold cm; split <;> (try split) <;> omega
theorem cm_zero {a b : Int} : cm a b = 0 ↔ a = b := by unfold cm; split <;> (try split) <;> omega
theorem sgn3_neg {a : Int} : sg3 a < 0 ↔ a < 0 := by unfold sg3; split <;> (try split) <;> omega
theorem sgn3_zero {a : Int} : sg3 a = 0 ↔ a = 0 := by unfold sg3; split <;> (try split) <;> omega
theorem stV_neg {p : Pt} {s t : Sg} {i k : Nat} : stV p s t i k < 0 ↔ stH s p * stD t < stH t p * stD s ∨ (stH s p * stD t = stH t p * stD s ∧ (stR s t < 0 ∨ (stR s t = 0 ∧ i < k))) := by
  unfold stV orL orL orL orL stC
  by_cases h1 : cm (stH s p * stD t) (stH t p * stD s) = 0
  · rw [if_neg (by simp [h1])]
    have e := cm_zero.1 h1
    by_cases h2 : sg3 (stR s t) = 0
    · rw [if_neg (by simp [h2])]
      have e2 := sgn3_zero.1 h2
      split <;> omega
    · rw [if_pos h2]
      have e2 : ¬ stR s t = 0 := fun h => h2 (sgn3_zero.2 h)
      have := sgn3_neg (a := stR s t)
      omega
  · rw [if_pos h1]
    have e : ¬ stH s p * stD t = stH t p * stD s := fun h => h1 (cm_zero.2 h)
    have := cm_neg (a := stH s p * stD t) (b := stH t p * stD s)
    omega
/-- Products with positive numbers keep the order: what is less than what, by fractions. -/
theorem fr_trans {a b c x y z : Int} (hx : 0 < x) (hy : 0 < y) (hz : 0 < z) (h1 : a * y ≤ b * x) (h2 : b * z ≤ c * y) : a * z ≤ c * x := by
  have k1 := Int.mul_le_mul_of_nonneg_right h1 (Int.le_of_lt hz)
  have k2 := Int.mul_le_mul_of_nonneg_right h2 (Int.le_of_lt hx)
  have e : a * z * y ≤ c * x * y := by
    have e1 : a * z * y = a * y * z := by rw [Int.mul_assoc, Int.mul_comm z y, ← Int.mul_assoc]
    have e2 : c * x * y = c * y * x := by rw [Int.mul_assoc, Int.mul_comm x y, ← Int.mul_assoc]
    have e3 : b * x * z = b * z * x := by rw [Int.mul_assoc, Int.mul_comm x z, ← Int.mul_assoc]
    omega
  exact Int.le_of_mul_le_mul_right e hy
theorem fr_trans_lt {a b c x y z : Int} (hx : 0 < x) (hy : 0 < y) (hz : 0 < z) (h1 : a * y < b * x) (h2 : b * z ≤ c * y) : a * z < c * x := by
  have k1 := Int.mul_lt_mul_of_pos_right h1 hz
  have k2 := Int.mul_le_mul_of_nonneg_right h2 (Int.le_of_lt hx)
  have e : a * z * y < c * x * y := by
    have e1 : a * z * y = a * y * z := by rw [Int.mul_assoc, Int.mul_comm z y, ← Int.mul_assoc]
    have e2 : c * x * y = c * y * x := by rw [Int.mul_assoc, Int.mul_comm x y, ← Int.mul_assoc]
    have e3 : b * x * z = b * z * x := by rw [Int.mul_assoc, Int.mul_comm x z, ← Int.mul_assoc]
    omega
  exact Int.lt_of_mul_lt_mul_right e (Int.le_of_lt hy)
theorem fr_trans_lt2 {a b c x y z : Int} (hx : 0 < x) (hy : 0 < y) (hz : 0 < z) (h1 : a * y ≤ b * x) (h2 : b * z < c * y) : a * z < c * x := by
  have k1 := Int.mul_le_mul_of_nonneg_right h1 (Int.le_of_lt hz)
  have k2 := Int.mul_lt_mul_of_pos_right h2 hx
  have e : a * z * y < c * x * y := by
    have e1 : a * z * y = a * y * z := by rw [Int.mul_assoc, Int.mul_comm z y, ← Int.mul_assoc]
    have e2 : c * x * y = c * y * x := by rw [Int.mul_assoc, Int.mul_comm x y, ← Int.mul_assoc]
    have e3 : b * x * z = b * z * x := by rw [Int.mul_assoc, Int.mul_comm x z, ← Int.mul_assoc]
    omega
  exact Int.lt_of_mul_lt_mul_right e (Int.le_of_lt hy)
/-- The segments' order, as a relation of numbered segments. -/
def stQ (p : Pt) (s t : Sg) (i k : Nat) : Bool := decide (stV p s t i k < 0)
theorem stR_eq (s t : Sg) : stR s t = (s.b.y - s.a.y) * stD t - (t.b.y - t.a.y) * stD s := rfl
theorem stQ_iff {p : Pt} {s t : Sg} {i k : Nat} : stQ p s t i k = true ↔ stH s p * stD t < stH t p * stD s ∨ (stH s p * stD t = stH t p * stD s ∧ ((s.b.y - s.a.y) * stD t < (t.b.y - t.a.y) * stD s ∨ ((s.b.y - s.a.y) * stD t = (t.b.y - t.a.y) * stD s ∧ i < k))) := by
  unfold stQ
  rw [decide_eq_true_eq, stV_neg, stR_eq]
  generalize (s.b.y - s.a.y) * stD t = A
  generalize (t.b.y - t.a.y) * stD s = B
  omega
theorem stQ_trans {p : Pt} {s t u : Sg} {i k m : Nat} (hs : 0 < stD s) (ht : 0 < stD t) (hu : 0 < stD u) (h1 : stQ p s t i k = true) (h2 : stQ p t u k m = true) : stQ p s u i m = true := by
  rw [stQ_iff] at *
  rcases h1 with h1 | ⟨e1, h1⟩
  · left
    refine fr_trans_lt hs ht hu h1 ?_
    rcases h2 with h2 | ⟨e2, _⟩ <;> omega
  · rcases h2 with h2 | ⟨e2, h2⟩
    · exact .inl (fr_trans_lt2 hs ht hu (Int.le_of_eq e1) h2)
    · right
      refine ⟨Int.le_antisymm (fr_trans hs ht hu (Int.le_of_eq e1) (Int.le_of_eq e2)) (fr_trans hu ht hs (Int.le_of_eq e2.symm) (Int.le_of_eq e1.symm)), ?_⟩
      rcases h1 with h1 | ⟨f1, h1⟩
      · left
        refine fr_trans_lt hs ht hu h1 ?_
        rcases h2 with h2 | ⟨f2, _⟩ <;> omega
      · rcases h2 with h2 | ⟨f2, h2⟩
        · exact .inl (fr_trans_lt2 hs ht hu (Int.le_of_eq f1) h2)
        · right
          exact ⟨Int.le_antisymm (fr_trans hs ht hu (Int.le_of_eq f1) (Int.le_of_eq f2)) (fr_trans hu ht hs (Int.le_of_eq f2.symm) (Int.le_of_eq f1.symm)), by omega⟩
theorem stQ_irr (p : Pt) (s : Sg) (i : Nat) : stQ p s s i i = false := by
  cases h : stQ p s s i i with
  | false => rfl
  | true => rw [stQ_iff] at h; omega
/-- Of two unlike numbers, one stands ahead. -/
theorem stQ_tot {p : Pt} {s t : Sg} {i k : Nat} (h : i ≠ k) (h1 : stQ p s t i k = false) : stQ p t s k i = true := by
  rw [stQ_iff]
  have h1' : ¬ stQ p s t i k = true := by rw [h1]; simp
  rw [stQ_iff] at h1'
  generalize (s.b.y - s.a.y) * stD t = A at *
  generalize (t.b.y - t.a.y) * stD s = B at *
  generalize stH s p * stD t = C at *
  generalize stH t p * stD s = D at *
  omega
theorem cm_mul {a b k : Int} (h : 0 < k) : cm (a * k) (b * k) = cm a b := by
  have h1 : a * k < b * k ↔ a < b := ⟨fun e => Int.lt_of_mul_lt_mul_right e (Int.le_of_lt h), fun e => Int.mul_lt_mul_of_pos_right e h⟩
  have h2 : b * k < a * k ↔ b < a := ⟨fun e => Int.lt_of_mul_lt_mul_right e (Int.le_of_lt h), fun e => Int.mul_lt_mul_of_pos_right e h⟩
  unfold cm
  simp only [gt_iff_lt, h1, h2]
/-- The point over p, by the reference. -/
def atG (s : Sg) (p : Pt) : Int := gcd3 (p.x.v * stD s) (stH s p) (p.w.v * stD s)
theorem at_cm {p : Pt} {s t : Sg} (hw : 0 < p.w.v) (hs : 0 < stD s) (ht : 0 < stD t) : cm (stH s p / atG s p * (p.w.v * stD t / atG t p)) (stH t p / atG t p * (p.w.v * stD s / atG s p)) = stC p s t := by
  have ws : 0 < p.w.v * stD s := Int.mul_pos hw hs
  have wt : 0 < p.w.v * stD t := Int.mul_pos hw ht
  have g1 : 0 < atG s p := gcd3_pos (Int.ne_of_gt ws)
  have g2 : 0 < atG t p := gcd3_pos (Int.ne_of_gt wt)
  obtain ⟨_, d2, d3⟩ := gcd3_dvd (p.x.v * stD s) (stH s p) (p.w.v * stD s)
  obtain ⟨_, d5, d6⟩ := gcd3_dvd (p.x.v * stD t) (stH t p) (p.w.v * stD t)
  have e2 : stH s p / atG s p * atG s p = stH s p := Int.ediv_mul_cancel d2
  have e3 : p.w.v * stD s / atG s p * atG s p = p.w.v * stD s := Int.ediv_mul_cancel d3
  have e5 : stH t p / atG t p * atG t p = stH t p := Int.ediv_mul_cancel d5
  have e6 : p.w.v * stD t / atG t p * atG t p = p.w.v * stD t := Int.ediv_mul_cancel d6
  rw [← cm_mul (Int.mul_pos g1 g2)]
  unfold stC
  rw [← cm_mul (a := stH s p * stD t) hw]
  generalize stH s p / atG s p = A at *
  generalize p.w.v * stD s / atG s p = B at *
  generalize stH t p / atG t p = C at *
  generalize p.w.v * stD t / atG t p = D at *
  rw [← e2, ← e5]
  have f1 : A * D * (atG s p * atG t p) = A * atG s p * stD t * p.w.v := by
    have : A * D * (atG s p * atG t p) = A * atG s p * (D * atG t p) := by
      rw [Int.mul_assoc, Int.mul_assoc, Int.mul_left_comm D]
    rw [this, e6, Int.mul_comm p.w.v, Int.mul_assoc (A * atG s p)]
  have f2 : C * B * (atG s p * atG t p) = C * atG t p * stD s * p.w.v := by
    have : C * B * (atG s p * atG t p) = C * atG t p * (B * atG s p) := by
      rw [Int.mul_comm (atG s p), Int.mul_assoc, Int.mul_assoc, Int.mul_left_comm B]
    rw [this, e3, Int.mul_comm p.w.v, Int.mul_assoc (C * atG t p)]
  rw [f1, f2]
/-- The order of the numbers: those of segments that are not upright ahead of the others. -/
def stG (L : List Sg) (i : Nat) : Bool := decide (0 < stD (gq L i))
def stO (L : List Sg) (p : Pt) (i k : Nat) : Bool := if stG L i = true then (if stG L k = true then stQ p (gq L i) (gq L k) i k else true) else (if stG L k = true then false else decide (i < k))
theorem stO_good {L : List Sg} {p : Pt} {i k : Nat} (hi : 0 < stD (gq L i)) (hk : 0 < stD (gq L k)) : stO L p i k = stQ p (gq L i) (gq L k) i k := by
  unfold stO stG; rw [if_pos (decide_eq_true hi), if_pos (decide_eq_true hk)]
theorem stO_tri {L : List Sg} {p : Pt} {i k : Nat} (h1 : stO L p i k = false) (h2 : stO L p k i = false) : i = k := by
  rcases Nat.lt_trichotomy i k with h | h | h
  · exfalso
    unfold stO at h1 h2
    cases gi : stG L i <;> cases gk : stG L k <;> rw [gi, gk] at h1 h2 <;> simp at h1 h2
    · omega
    · have := stQ_tot (show i ≠ k by omega) h1; rw [h2] at this; simp at this
  · exact h
  · exfalso
    unfold stO at h1 h2
    cases gi : stG L i <;> cases gk : stG L k <;> rw [gi, gk] at h1 h2 <;> simp at h1 h2
    · omega
    · have := stQ_tot (show i ≠ k by omega) h1; rw [h2] at this; simp at this
theorem stO_swo (L : List Sg) (p : Pt) : Sort.SWO (stO L p) := by
  have tr : ∀ x y z, stO L p x y = true → stO L p y z = true → stO L p x z = true := by
    intro x y z h1 h2
    unfold stO at *
    cases gx : stG L x <;> cases gy : stG L y <;> cases gz : stG L z <;> rw [gx, gy] at h1 <;> rw [gy, gz] at h2 <;> simp at h1 h2 ⊢
    · omega
    · exact stQ_trans (of_decide_eq_true gx) (of_decide_eq_true gy) (of_decide_eq_true gz) h1 h2
  have ir : ∀ x, stO L p x x = false := by
    intro x
    unfold stO
    cases stG L x <;> simp [stQ_irr]
  refine ⟨ir, tr, fun x y z h1 h2 => ?_⟩
  cases h : stO L p x z with
  | false => rfl
  | true =>
    exfalso
    cases h3 : stO L p y x with
    | true => have := tr _ _ _ h3 h; rw [h2] at this; simp at this
    | false =>
      have e := stO_tri h1 h3
      subst e
      rw [h2] at h; simp at h
/-- The status. -/
def stI (L : List Sg) (p : Pt) (n : Nat) : List Nat := insL (stO L p) [] (svL L p n)
theorem stI_step (L : List Sg) (p : Pt) (i : Nat) : stI L p (i + 1) = if stB (gq L i) p = true then insA (stO L p) (stI L p i) i else stI L p i := by
  unfold stI
  rw [svL_step]
  split
  · exact insL_snoc _ _ _
  · rfl
theorem stI_perm (L : List Sg) (p : Pt) (n : Nat) : (stI L p n).Perm (svL L p n) := by simpa [stI] using insL_perm (stO L p) (svL L p n) []
theorem stI_mem {L : List Sg} {p : Pt} {n i : Nat} : i ∈ stI L p n ↔ i < n ∧ stB (gq L i) p = true := by rw [(stI_perm L p n).mem_iff, svL_mem]
theorem stI_len (L : List Sg) (p : Pt) (n : Nat) : (stI L p n).length = (svL L p n).length := (stI_perm L p n).length_eq
theorem stI_srt (L : List Sg) (p : Pt) (n : Nat) : (stI L p n).Pairwise (fun x y => stO L p y x = false) := insL_srt (stO_swo L p) _ _ List.Pairwise.nil
theorem stI_unique {L : List Sg} {p : Pt} {n : Nat} {r : List Nat} (h1 : r.Perm (svL L p n)) (h2 : r.Pairwise (fun x y => stO L p y x = false)) : r = stI L p n :=
  List.Perm.eq_of_pairwise (le := fun x y => stO L p y x = false) (fun _ _ _ _ h h' => stO_tri h' h) h2 (stI_srt L p n) (h1.trans (stI_perm L p n).symm)
theorem stB_D {s : Sg} {p : Pt} (h : stB s p = true) : 0 < stD s := by
  unfold stB at h
  simp only [Bool.and_eq_true, decide_eq_true_eq] at h
  unfold stD; omega
/-- The numbers of segments that are not upright. -/
abbrev StI (L : List Sg) := { k : Nat // k < L.length ∧ 0 < stD (gq L k) }
def stA (L : List Sg) (p : Pt) : Array (StI L) := ((svL L p L.length).attach.map fun x => (⟨x.1, (svL_mem.1 x.2).1, stB_D (svL_mem.1 x.2).2⟩ : StI L)).toArray
theorem stA_list (L : List Sg) (p : Pt) : (stA L p).toList.map (·.1) = svL L p L.length := by simp [stA]
def stCv (L : List Sg) (p : Pt) (x y : StI L) : Int := stV p (gq L x.1) (gq L y.1) x.1 y.1
theorem stCv_lt (L : List Sg) (p : Pt) (x y : StI L) : ltc (stCv L p) x y = stO L p x.1 y.1 := by rw [stO_good x.2.2 y.2.2]; rfl
theorem stCv_swo (L : List Sg) (p : Pt) : Sort.SWO (ltc (stCv L p)) := by
  have h := stO_swo L p
  refine ⟨fun x => by rw [stCv_lt]; exact h.irrefl _, fun x y z h1 h2 => ?_, fun x y z h1 h2 => ?_⟩
  · rw [stCv_lt] at *; exact h.trans _ _ _ h1 h2
  · rw [stCv_lt] at *; exact h.ntrans _ _ _ h1 h2
theorem stA_sort (L : List Sg) (p : Pt) [Inhabited (StI L)] : (Sort.insertionSort (ltc (stCv L p)) (stA L p) 0 (stA L p).size).toList.map (·.1) = stI L p L.length := by
  obtain ⟨⟨h1, _, h3⟩, h4⟩ := Sort.insertionSort_holds (stCv_swo L p) (stA L p) 0 (stA L p).size (Nat.zero_le _) (Nat.le_refl _)
  generalize Sort.insertionSort (ltc (stCv L p)) (stA L p) 0 (stA L p).size = e at *
  have e1 : e.extract 0 (stA L p).size = e := by rw [← h1]; simp
  have e2 : (stA L p).extract 0 (stA L p).size = stA L p := by simp
  rw [e1, e2] at h3
  refine stI_unique (by rw [← stA_list]; exact h3.map _) ?_
  rw [List.pairwise_map, List.pairwise_iff_getElem]
  intro i j hi hj hij
  have hi' : i < e.size := by simpa using hi
  have hj' : j < e.size := by simpa using hj
  have := h4 i j (Nat.zero_le _) hij (by rw [← h1]; exact hj')
  rw [stCv_lt] at this
  simpa [hi', hj'] using this
/-- The numbers, as integers. -/
def svZ (L : List Sg) (p : Pt) (n : Nat) : List Int := (svL L p n).map fun k : Nat => (k : Int)
def stZ (L : List Sg) (p : Pt) : List Int := (stI L p L.length).map fun k : Nat => (k : Int)
theorem svZ_step (L : List Sg) (p : Pt) (i : Nat) : svZ L p (i + 1) = if stB (gq L i) p = true then svZ L p i ++ [(i : Int)] else svZ L p i := by
  unfold svZ; rw [svL_step]; split <;> simp
theorem svZ_len (L : List Sg) (p : Pt) (n : Nat) : (svZ L p n).length ≤ n := by
  have := svL_len L p n
  simpa [svZ] using this
theorem stZ_len (L : List Sg) (p : Pt) : (stZ L p).length = (svZ L p L.length).length := by simp [stZ, svZ, stI_len]
end Go.Proofs.YtaibemhdfhchfaaGreat

/- The status: what stands over a place, from low to high. -/
namespace Go.Proofs.YtaibemhdfhchfaaGreat
open Go Go.RowKit
theorem sg3_le {a b : Int} (h1 : 0 < a → 0 < b) (h2 : b < 0 → a < 0) : sg3 a ≤ sg3 b := by
  unfold sg3
  split <;> (try split) <;> (try split) <;> (try split) <;> omega
theorem st_side (s : Sg) (p : Pt) : sdZ s p = stD s * p.y.v - stH s p := by
  unfold sdZ stH stD
  generalize s.b.x - s.a.x = D
  generalize s.b.y - s.a.y = E
  generalize p.x.v - s.a.x * p.w.v = X
  rw [Int.mul_sub, Int.mul_comm E X]
  have : D * (s.a.y * p.w.v) = s.a.y * D * p.w.v := by rw [← Int.mul_assoc, Int.mul_comm D]
  omega
/-- How a segment of the status stands over the point. -/
theorem ov_st {s : Sg} {p : Pt} (gs : s.good = true) (gp : p.good = true) (h : stB s p = true) : ovF s p = sg3 (stH s p - stD s * p.y.v) := by
  unfold stB at h
  simp only [Bool.and_eq_true, decide_eq_true_eq] at h
  have e : ovF s p = ovI s p := by unfold ovF; rw [gs, gp]; rfl
  rw [e]
  unfold ovI
  rw [if_neg (by omega), if_pos h.1]
  unfold sdF
  rw [st_side]
  unfold sg3
  split <;> (try split) <;> (try split) <;> (try split) <;> omega
theorem ov_mono {s t : Sg} {p : Pt} (hs : 0 < stD s) (ht : 0 < stD t) (h : stH s p * stD t ≤ stH t p * stD s) : sg3 (stH s p - stD s * p.y.v) ≤ sg3 (stH t p - stD t * p.y.v) := by
  have e1 : (stH s p - stD s * p.y.v) * stD t = stH s p * stD t - p.y.v * (stD s * stD t) := by rw [Int.sub_mul, Int.mul_right_comm, Int.mul_comm (stD s * stD t)]
  have e2 : (stH t p - stD t * p.y.v) * stD s = stH t p * stD s - p.y.v * (stD s * stD t) := by rw [Int.sub_mul, Int.mul_right_comm, Int.mul_comm (stD t) (stD s), Int.mul_comm (stD s * stD t)]
  have hle : (stH s p - stD s * p.y.v) * stD t ≤ (stH t p - stD t * p.y.v) * stD s := by rw [e1, e2]; omega
  generalize stH s p - stD s * p.y.v = A at *
  generalize stH t p - stD t * p.y.v = B at *
  refine sg3_le (fun h1 => ?_) (fun h1 => ?_)
  · have := Int.mul_pos h1 ht
    rcases Int.lt_or_le 0 B with h2 | h2
    · exact h2
    · have := Int.mul_nonpos_of_nonpos_of_nonneg h2 (Int.le_of_lt hs); omega
  · have := Int.mul_neg_of_neg_of_pos h1 hs
    rcases Int.lt_or_le A 0 with h2 | h2
    · exact h2
    · have := Int.mul_nonneg h2 (Int.le_of_lt ht); omega
theorem svL_nodup (L : List Sg) (p : Pt) (n : Nat) : (svL L p n).Nodup := List.nodup_range.filter _
theorem stI_nodup (L : List Sg) (p : Pt) (n : Nat) : (stI L p n).Nodup := (stI_perm L p n).nodup_iff.2 (svL_nodup L p n)
/-- The status' numbers by their places. -/
def sq (L : List Sg) (p : Pt) (i : Nat) : Nat := (stI L p L.length).getD i 0
theorem sq_mem {L : List Sg} {p : Pt} {i : Nat} (h : i < (stI L p L.length).length) : sq L p i ∈ stI L p L.length := by
  unfold sq; rw [List.getD_eq_getElem?_getD, List.getElem?_eq_getElem h]; exact List.getElem_mem h
theorem sq_b {L : List Sg} {p : Pt} {i : Nat} (h : i < (stI L p L.length).length) : sq L p i < L.length ∧ stB (gq L (sq L p i)) p = true := stI_mem.1 (sq_mem h)
theorem sq_ne {L : List Sg} {p : Pt} {i k : Nat} (hi : i < k) (hk : k < (stI L p L.length).length) : sq L p i ≠ sq L p k := by
  have h := List.pairwise_iff_getElem.1 (stI_nodup L p L.length) i k (by omega) hk hi
  unfold sq
  rw [List.getD_eq_getElem?_getD, List.getD_eq_getElem?_getD, List.getElem?_eq_getElem (by omega), List.getElem?_eq_getElem hk]
  exact h
theorem sq_ov {L : List Sg} {p : Pt} (hg : ∀ s ∈ L, s.good = true) (gp : p.good = true) {i k : Nat} (hi : i < k) (hk : k < (stI L p L.length).length) : ovF (gq L (sq L p i)) p ≤ ovF (gq L (sq L p k)) p := by
  have h := List.pairwise_iff_getElem.1 (stI_srt L p L.length) i k (by omega) hk hi
  have e1 : (stI L p L.length)[i]'(by omega) = sq L p i := by unfold sq; rw [List.getD_eq_getElem?_getD, List.getElem?_eq_getElem (by omega)]; rfl
  have e2 : (stI L p L.length)[k]'hk = sq L p k := by unfold sq; rw [List.getD_eq_getElem?_getD, List.getElem?_eq_getElem hk]; rfl
  rw [e1, e2] at h
  obtain ⟨a1, a2⟩ := sq_b (L := L) (p := p) (i := i) (by omega)
  obtain ⟨b1, b2⟩ := sq_b hk
  have hne := sq_ne hi hk
  generalize sq L p i = x at *
  generalize sq L p k = y at *
  have dx := stB_D a2
  have dy := stB_D b2
  rw [stO_good dy dx] at h
  have q := stQ_tot (fun e => hne e.symm) h
  rw [stQ_iff] at q
  rw [ov_st (hg _ (gq_mem a1)) gp a2, ov_st (hg _ (gq_mem b1)) gp b2]
  refine ov_mono dx dy ?_
  rcases q with q | ⟨q, _⟩ <;> omega
end Go.Proofs.YtaibemhdfhchfaaGreat
