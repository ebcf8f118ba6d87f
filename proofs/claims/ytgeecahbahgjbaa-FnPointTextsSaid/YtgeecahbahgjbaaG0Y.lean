/- Whole numbers as rows of digits: their values, the one row without noughts at its end. -/
import Derived.Test.YtgeecahbahgjbaaG0X
import Derived.Tactics
import Derived.Laws.MathBits
import Derived.Laws.BitsAllLaws
import Derived.Laws.BytesArg
import Derived.Lib.Bytealg

namespace Go.Proofs.Ytgeecahbahgjbaa

def val (B : Nat) : List Int → Int
  | [] => 0
  | x :: r => x + (B : Int) * val B r
def Dig (B : Nat) (l : List Int) : Prop := ∀ x ∈ l, 0 ≤ x ∧ x < (B : Int)
def Can (l : List Int) : Prop := l.getLast? ≠ some 0
def digs (B : Nat) (n : Nat) : List Int :=
  if h : n = 0 ∨ B ≤ 1 then [] else ((n % B : Nat) : Int) :: digs B (n / B)
  termination_by n
  decreasing_by exact Nat.div_lt_self (by omega) (by omega)
def trimW : List Int → List Int
  | [] => []
  | x :: r => match trimW r with
    | [] => if x = 0 then [] else [x]
    | y :: s => x :: y :: s

theorem Dig.nil (B : Nat) : Dig B [] := fun x h => by simp at h
theorem Dig.cons {B : Nat} {x : Int} {r : List Int} (h0 : 0 ≤ x) (h1 : x < B) (h : Dig B r) : Dig B (x :: r) := fun y hy => by
  rcases List.mem_cons.mp hy with rfl | hy
  · exact ⟨h0, h1⟩
  · exact h y hy
theorem Dig.head {B : Nat} {x : Int} {r : List Int} (h : Dig B (x :: r)) : 0 ≤ x ∧ x < (B : Int) := h x (by simp)
theorem Dig.tail {B : Nat} {x : Int} {r : List Int} (h : Dig B (x :: r)) : Dig B r := fun y hy => h y (by simp [hy])
theorem Dig.append {B : Nat} {l r : List Int} (h : Dig B l) (k : Dig B r) : Dig B (l ++ r) := fun x hx => by
  rcases List.mem_append.mp hx with h' | h'
  · exact h x h'
  · exact k x h'
theorem Dig.take {B : Nat} {l : List Int} (h : Dig B l) (n : Nat) : Dig B (l.take n) := fun x hx => h x (List.mem_of_mem_take hx)
theorem Dig.drop {B : Nat} {l : List Int} (h : Dig B l) (n : Nat) : Dig B (l.drop n) := fun x hx => h x (List.mem_of_mem_drop hx)
theorem Dig.get {B : Nat} {l : List Int} (h : Dig B l) {i : Nat} {x : Int} (hx : l[i]? = some x) : 0 ≤ x ∧ x < (B : Int) := h x (List.mem_of_getElem? hx)
theorem Dig.set {B : Nat} {l : List Int} (h : Dig B l) (i : Nat) {x : Int} (h0 : 0 ≤ x) (h1 : x < B) : Dig B (l.set i x) := fun y hy => by
  rcases List.mem_or_eq_of_mem_set hy with h' | h'
  · exact h y h'
  · rw [h']; exact ⟨h0, h1⟩
theorem Dig.replicate {B : Nat} (n : Nat) {x : Int} (h0 : 0 ≤ x) (h1 : x < B) : Dig B (List.replicate n x) := fun y hy => by
  rw [(List.mem_replicate.mp hy).2]; exact ⟨h0, h1⟩

theorem val_nonneg {B : Nat} : ∀ {l : List Int}, Dig B l → 0 ≤ val B l
  | [], _ => by simp [val]
  | x :: r, h => by
    have := val_nonneg h.tail
    have h1 := h.head
    unfold val
    have : 0 ≤ (B : Int) * val B r := Int.mul_nonneg (by omega) this
    omega

theorem val_append {B : Nat} : ∀ (l r : List Int), val B (l ++ r) = val B l + (B : Int) ^ l.length * val B r
  | [], r => by simp [val]
  | x :: l, r => by
    simp only [List.cons_append, val, val_append l r, List.length_cons]
    rw [Int.pow_succ, Int.mul_add, ← Int.mul_assoc, Int.mul_comm (B : Int) ((B : Int) ^ l.length)]
    omega

theorem val_lt {B : Nat} : ∀ {l : List Int}, Dig B l → val B l < (B : Int) ^ l.length
  | [], _ => by simp [val]
  | x :: r, h => by
    have ih := val_lt h.tail
    have h1 := h.head
    unfold val
    rw [List.length_cons, Int.pow_succ, Int.mul_comm]
    have h2 : val B r + 1 ≤ (B : Int) ^ r.length := by omega
    have h3 : (val B r + 1) * (B : Int) ≤ (B : Int) ^ r.length * (B : Int) := Int.mul_le_mul_of_nonneg_right h2 (by omega)
    rw [Int.add_mul] at h3
    rw [Int.mul_comm] 
    rw [Int.mul_comm (val B r)] at h3
    rw [Int.mul_comm (B : Int) (val B r)] at *
    omega

theorem val_replicate {B : Nat} : ∀ n, val B (List.replicate n 0) = 0
  | 0 => rfl
  | n + 1 => by simp [List.replicate_succ, val, val_replicate n]

theorem trimW_val {B : Nat} : ∀ l, val B (trimW l) = val B l
  | [] => rfl
  | x :: r => by
    have ih := trimW_val (B := B) r
    unfold trimW
    split
    · rename_i h
      rw [h] at ih
      simp only [val] at ih
      split
      · rename_i hx; simp [val, ← ih, hx]
      · simp [val, ← ih]
    · rename_i y s h
      rw [h] at ih
      simp only [val] at ih ⊢
      rw [ih]

theorem trimW_can : ∀ l, Can (trimW l)
  | [] => by simp [trimW, Can]
  | x :: r => by
    have ih := trimW_can r
    unfold trimW
    split
    · split
      · simp [Can]
      · rename_i hx; simp [Can, hx]
    · rename_i y s h
      rw [h] at ih
      unfold Can at *
      simpa [List.getLast?_cons_cons] using ih

theorem trimW_mem : ∀ (l : List Int) (x : Int), x ∈ trimW l → x ∈ l
  | [], x, h => by simp [trimW] at h
  | y :: r, x, h => by
    have ih := trimW_mem r x
    unfold trimW at h
    split at h
    · split at h
      · simp at h
      · simp at h; simp [h]
    · rename_i z s hz
      rw [hz] at ih
      rcases List.mem_cons.mp h with h | h
      · simp [h]
      · simp [ih h]
theorem Dig.trim {B : Nat} {l : List Int} (h : Dig B l) : Dig B (trimW l) := fun x hx => h x (trimW_mem l x hx)

theorem trimW_length : ∀ (l : List Int), (trimW l).length ≤ l.length
  | [] => by simp [trimW]
  | y :: r => by
    have ih := trimW_length r
    unfold trimW
    split
    · split <;> simp
    · rename_i z s hz
      rw [hz] at ih
      simp at ih ⊢; omega

theorem Can.tail {x y : Int} {r : List Int} (h : Can (x :: y :: r)) : Can (y :: r) := by
  unfold Can at *; simpa [List.getLast?_cons_cons] using h

theorem can_pos {B : Nat} (hB : 1 < B) : ∀ {l : List Int}, Dig B l → Can l → l ≠ [] → 0 < val B l
  | [], _, _, h => by simp at h
  | [x], hd, hc, _ => by
    have := hd.head
    have : x ≠ 0 := by intro e; subst e; simp [Can] at hc
    simp [val]; omega
  | x :: y :: r, hd, hc, _ => by
    have ih := can_pos hB hd.tail hc.tail (by simp)
    have := hd.head
    unfold val
    have : 0 < (B : Int) * val B (y :: r) := Int.mul_pos (by omega) ih
    omega

theorem digs_zero (B : Nat) : digs B 0 = [] := by rw [digs]; simp
theorem digs_pos {B n : Nat} (hB : 1 < B) (hn : n ≠ 0) : digs B n = ((n % B : Nat) : Int) :: digs B (n / B) := by
  rw [digs, dif_neg (by omega)]

theorem digs_val {B : Nat} (hB : 1 < B) : ∀ n, val B (digs B n) = n := by
  intro n
  induction n using Nat.strongRecOn with
  | _ n ih =>
    by_cases hn : n = 0
    · subst hn; simp [digs_zero, val]
    · rw [digs_pos hB hn, val, ih _ (Nat.div_lt_self (by omega) hB)]
      have := Nat.mod_add_div n B
      exact_mod_cast this

theorem digs_dig {B : Nat} (hB : 1 < B) : ∀ n, Dig B (digs B n) := by
  intro n
  induction n using Nat.strongRecOn with
  | _ n ih =>
    by_cases hn : n = 0
    · subst hn; rw [digs_zero]; exact Dig.nil B
    · rw [digs_pos hB hn]
      exact Dig.cons (by omega) (by exact_mod_cast Nat.mod_lt n (by omega)) (ih _ (Nat.div_lt_self (by omega) hB))

theorem digs_can {B : Nat} (hB : 1 < B) : ∀ n, Can (digs B n) := by
  intro n
  induction n using Nat.strongRecOn with
  | _ n ih =>
    by_cases hn : n = 0
    · subst hn; rw [digs_zero]; simp [Can]
    · rw [digs_pos hB hn]
      have ih' := ih _ (Nat.div_lt_self (by omega) hB)
      by_cases h2 : n / B = 0
      · rw [h2, digs_zero]
        have : n % B = n := by rw [Nat.mod_eq_of_lt]; rw [Nat.div_eq_zero_iff] at h2; omega
        unfold Can
        simp [this]; omega
      · rw [digs_pos hB h2] at ih' ⊢
        unfold Can at *; simpa [List.getLast?_cons_cons] using ih'

/-- A row of digits without noughts at its end is the row of its value. -/
theorem digs_of {B : Nat} (hB : 1 < B) : ∀ {l : List Int}, Dig B l → Can l → digs B (val B l).toNat = l
  | [], _, _ => by simp [val, digs_zero]
  | x :: r, hd, hc => by
    have hpos := can_pos hB hd hc (by simp)
    have h1 := hd.head
    have h2 := val_nonneg hd.tail
    rw [digs_pos hB (by omega)]
    have hv : val B (x :: r) = x + (B : Int) * val B r := rfl
    have e1 : (val B (x :: r)).toNat = x.toNat + B * (val B r).toNat := by
      rw [hv]
      have : (B : Int) * val B r = ((B * (val B r).toNat : Nat) : Int) := by rw [Int.natCast_mul, Int.toNat_of_nonneg h2]
      omega
    have hx : x.toNat < B := by omega
    have e2 : (val B (x :: r)).toNat % B = x.toNat := by rw [e1, Nat.add_mul_mod_self_left, Nat.mod_eq_of_lt hx]
    have e3 : (val B (x :: r)).toNat / B = (val B r).toNat := by rw [e1, Nat.add_mul_div_left _ _ (by omega), Nat.div_eq_of_lt hx]; omega
    rw [e2, e3, digs_of hB hd.tail (by
      cases r with
      | nil => simp [Can]
      | cons y s => exact hc.tail)]
    congr 1; omega

theorem trimW_digs {B : Nat} (hB : 1 < B) {l : List Int} (h : Dig B l) : trimW l = digs B (val B l).toNat := by
  rw [← trimW_val l, digs_of hB h.trim (trimW_can l)]

theorem digs_inj {B : Nat} (hB : 1 < B) {m n : Nat} (h : digs B m = digs B n) : m = n := by
  have h1 := digs_val hB m
  have h2 := digs_val hB n
  rw [h] at h1
  omega

theorem digs_eq_nil {B : Nat} (hB : 1 < B) {n : Nat} : digs B n = [] ↔ n = 0 := by
  constructor
  · intro h; exact digs_inj hB (by rw [h, digs_zero])
  · rintro rfl; exact digs_zero B

theorem digs_length_le {B : Nat} (hB : 1 < B) : ∀ (k n : Nat), n < B ^ k → (digs B n).length ≤ k
  | 0, n, h => by
    have : n = 0 := by simpa using h
    subst this; simp [digs_zero]
  | k + 1, n, h => by
    by_cases hn : n = 0
    · subst hn; simp [digs_zero]
    · rw [digs_pos hB hn, List.length_cons]
      have := digs_length_le hB k (n / B) (by rw [Nat.div_lt_iff_lt_mul (by omega)]; rwa [Nat.pow_succ] at h)
      omega

theorem trimW_concat_zero : ∀ (l : List Int), trimW (l ++ [0]) = trimW l
  | [] => by simp [trimW]
  | x :: r => by simp only [List.cons_append, trimW, trimW_concat_zero r]
theorem trimW_concat_pos : ∀ (l : List Int) (x : Int), x ≠ 0 → trimW (l ++ [x]) = l ++ [x]
  | [], x, h => by simp [trimW, h]
  | y :: r, x, h => by
    have ih := trimW_concat_pos r x h
    simp only [List.cons_append, trimW, ih]
    cases r <;> simp
end Go.Proofs.Ytgeecahbahgjbaa

/- Rows of digits compared. -/
namespace Go.Proofs.Ytgeecahbahgjbaa

def cmpAt (a b : List Int) : Nat → Int
  | 0 => 0
  | m + 1 => if gt a m = gt b m then cmpAt a b m else if gt a m < gt b m then -1 else 1
def cmpI (a b : List Int) : Int := if a.length = b.length then cmpAt a b a.length else (a.length : Int) - b.length
theorem cmpI_of {a b : List Int} (h : a.length = b.length) : cmpI a b = cmpAt a b a.length := by simp [cmpI, h]
theorem cmpI_ne {a b : List Int} (h : a.length ≠ b.length) : cmpI a b = (a.length : Int) - b.length := by simp [cmpI, h]

theorem val_take_succ {B : Nat} (l : List Int) (i : Nat) : val B (l.take (i + 1)) = val B (l.take i) + (B : Int) ^ i * gt l i := by
  by_cases h : i < l.length
  · rw [List.take_add_one, gt_some h, val_append]
    simp [val, Nat.min_eq_left (Nat.le_of_lt h)]
  · rw [List.take_of_length_le (by omega), List.take_of_length_le (by omega), gt_ge (by omega)]; simp
theorem val_take_all {B : Nat} {l : List Int} {i : Nat} (h : l.length ≤ i) : val B (l.take i) = val B l := by rw [List.take_of_length_le h]
theorem gt_set {l : List Int} {i : Nat} {v : Int} (h : i < l.length) : gt (l.set i v) i = v := by simp [gt, h]
theorem gt_set_ne {l : List Int} {i j : Nat} {v : Int} (h : i ≠ j) : gt (l.set i v) j = gt l j := by simp [gt, List.getElem?_set_ne h]
theorem take_set {l : List Int} {i : Nat} {v : Int} : (l.set i v).take i = l.take i := by
  rw [List.take_set, List.set_eq_of_length_le (by simp; omega)]
theorem val_set_take {B : Nat} {l : List Int} {i : Nat} {v : Int} (h : i < l.length) : val B ((l.set i v).take (i + 1)) = val B (l.take i) + (B : Int) ^ i * v := by
  rw [val_take_succ, take_set, gt_set h]
theorem Dig.gt {B : Nat} {l : List Int} (hB : 0 < B) (h : Dig B l) (i : Nat) : 0 ≤ gt l i ∧ gt l i < (B : Int) := by
  by_cases hi : i < l.length
  · exact h.get (gt_some hi)
  · rw [gt_ge (by omega)]; omega
theorem val_lt64 {l : List Int} (h : Dig 18446744073709551616 l) : val 18446744073709551616 l < (18446744073709551616 : Int) ^ l.length := val_lt h
theorem val_lt32 {l : List Int} (h : Dig 4294967296 l) : val 4294967296 l < (4294967296 : Int) ^ l.length := val_lt h
theorem val_take64 (l : List Int) (i : Nat) : val 18446744073709551616 (l.take (i + 1)) = val 18446744073709551616 (l.take i) + (18446744073709551616 : Int) ^ i * gt l i := val_take_succ l i
theorem val_take32 (l : List Int) (i : Nat) : val 4294967296 (l.take (i + 1)) = val 4294967296 (l.take i) + (4294967296 : Int) ^ i * gt l i := val_take_succ l i
end Go.Proofs.Ytgeecahbahgjbaa

/- Whole numbers with a sign and words: as values of the program. -/
namespace Go.Proofs.Ytgeecahbahgjbaa
open Go Go.RowKit

def mag (z : Int) : List Int := digs 18446744073709551616 z.natAbs
def numI (z : Int) : AV := .agg [.bool (decide (z < 0)), Wd .u64 (mag z)]
def sg (b : Bool) (v : Int) : Int := if b then -v else v
/-- Fewer than so many words. -/
def Bg (k : Nat) (z : Int) : Prop := z.natAbs < 18446744073709551616 ^ k

theorem mag_dig (z : Int) : Dig 18446744073709551616 (mag z) := digs_dig (by omega) _
theorem mag_can (z : Int) : Can (mag z) := digs_can (by omega) _
theorem mag_val (z : Int) : val 18446744073709551616 (mag z) = (z.natAbs : Int) := digs_val (by omega) _
theorem mag_abs (z : Int) : mag (z.natAbs : Int) = mag z := by simp [mag]
theorem mag_neg (z : Int) : mag (-z) = mag z := by simp [mag]
theorem mag_zero : mag 0 = [] := digs_zero _
theorem mag_nil {z : Int} : mag z = [] ↔ z = 0 := by unfold mag; rw [digs_eq_nil (by omega)]; omega
theorem mag_len0 {z : Int} : (mag z).length = 0 ↔ z = 0 := by rw [List.length_eq_zero_iff, mag_nil]
theorem mag_of {l : List Int} (h : Dig 18446744073709551616 l) : trimW l = mag (val 18446744073709551616 l) := by
  have := val_nonneg h
  rw [trimW_digs (by omega) h, mag]; congr 1; omega
theorem Bg.len {k : Nat} {z : Int} (h : Bg k z) : (mag z).length ≤ k := digs_length_le (by omega) k _ h
theorem Bg.le {j k : Nat} {z : Int} (h : Bg j z) (hk : j ≤ k) : Bg k z := Nat.lt_of_lt_of_le h (Nat.pow_le_pow_right (by omega) hk)
theorem Bg.abs {k : Nat} {z : Int} (h : Bg k z) : Bg k (z.natAbs : Int) := by unfold Bg at *; simpa using h
theorem Bg.neg {k : Nat} {z : Int} (h : Bg k z) : Bg k (-z) := by unfold Bg at *; simpa using h
theorem Bg.add {j k : Nat} {a b : Int} (ha : Bg j a) (hb : Bg k b) : Bg (max j k + 1) (a + b) := by
  unfold Bg at *
  have h1 : a.natAbs < 18446744073709551616 ^ max j k := Nat.lt_of_lt_of_le ha (Nat.pow_le_pow_right (by omega) (Nat.le_max_left _ _))
  have h2 : b.natAbs < 18446744073709551616 ^ max j k := Nat.lt_of_lt_of_le hb (Nat.pow_le_pow_right (by omega) (Nat.le_max_right _ _))
  rw [Nat.pow_succ]
  have := Int.natAbs_add_le a b
  omega
theorem Bg.sub {j k : Nat} {a b : Int} (ha : Bg j a) (hb : Bg k b) : Bg (max j k + 1) (a - b) := by rw [Int.sub_eq_add_neg]; exact ha.add hb.neg
theorem Bg.mul {j k : Nat} {a b : Int} (ha : Bg j a) (hb : Bg k b) : Bg (j + k) (a * b) := by
  unfold Bg at *
  rw [Int.natAbs_mul, Nat.pow_add]
  exact Nat.mul_lt_mul'' ha hb
theorem Bg.i64 {n : Int} (h1 : -9223372036854775808 ≤ n) (h2 : n ≤ 9223372036854775807) : Bg 1 n := by unfold Bg; omega
theorem Bg.zero : Bg 0 0 := by unfold Bg; simp

theorem sg_true (v : Int) : sg true v = -v := rfl
theorem sg_false (v : Int) : sg false v = v := rfl
theorem numI_mk {b : Bool} {l : List Int} (h : Dig 18446744073709551616 l) : AV.agg [.bool (b && decide (0 < (trimW l).length)), Wd .u64 (trimW l)] = numI (sg b (val 18446744073709551616 l)) := by
  have h0 := val_nonneg h
  have e1 : mag (sg b (val 18446744073709551616 l)) = trimW l := by
    rw [mag_of h]
    cases b
    · rfl
    · exact mag_neg _
  unfold numI
  rw [e1]
  have : decide (sg b (val 18446744073709551616 l) < 0) = (b && decide (0 < (trimW l).length)) := by
    have e2 : (0 < (trimW l).length) ↔ val 18446744073709551616 l ≠ 0 := by
      rw [mag_of h, Nat.pos_iff_ne_zero, ne_eq, mag_len0]
    cases b
    · simp [sg]; omega
    · simp only [sg, if_true, Bool.true_and, decide_eq_decide, e2]; omega
  rw [this]
theorem cells_numI (z : Int) : avCells (numI z) = some [.bool (decide (z < 0)), Wd .u64 (mag z)] := rfl
theorem numI_fold (z : Int) : AV.agg [.bool (decide (z < 0)), Wd .u64 (mag z)] = numI z := rfl
theorem idf_numI (z : Int) : idf (numI z) = True := by simp [numI, idf, idfL, idf_Wd']
theorem num0_weak {w : World} {β : Nat → Option Loc} {b : Nat → Bool} {v : Value} (h : VR w β b (.agg [.bool false, .nsl]) v) : VR w β b (numI 0) v := by
  obtain ⟨vs, rfl, u, r, e, h1, u2, r2, e2, h2, h3⟩ := h
  exact ⟨vs, rfl, u, r, e, h1, u2, r2, e2, (by rw [mag_zero]; exact nsl_Wd .u64 h2), h3⟩

theorem val_set {B : Nat} : ∀ {l : List Int} {i : Nat} {v : Int}, i < l.length → val B (l.set i v) = val B l + (B : Int) ^ i * (v - gt l i)
  | [], i, v, h => by simp at h
  | x :: r, 0, v, _ => by simp [val, gt]; omega
  | x :: r, i + 1, v, h => by
    have ih := val_set (B := B) (l := r) (i := i) (v := v) (by simpa using h)
    have e : gt (x :: r) (i + 1) = gt r i := by simp [gt]
    rw [List.set_cons_succ, e]
    simp only [val, ih, Int.pow_succ]
    grind
theorem val_setB {l : List Int} {i : Nat} {v : Int} (h : i < l.length) : val 18446744073709551616 (l.set i v) = val 18446744073709551616 l + (18446744073709551616 : Int) ^ i * (v - gt l i) := val_set h
theorem val_setC {l : List Int} {i : Nat} {v : Int} (h : i < l.length) : val 4294967296 (l.set i v) = val 4294967296 l + (4294967296 : Int) ^ i * (v - gt l i) := val_set h

/-- Words compared. -/
theorem cmpAt_spec {B : Nat} (hB : 1 < B) {a b : List Int} (da : Dig B a) (db : Dig B b) : ∀ n, (cmpAt a b n < 0 ↔ val B (a.take n) < val B (b.take n)) ∧ (cmpAt a b n = 0 ↔ val B (a.take n) = val B (b.take n))
  | 0 => by simp [cmpAt, val]
  | n + 1 => by
    have ih := cmpAt_spec hB da db n
    rw [val_take_succ, val_take_succ]
    have ha := val_lt (da.take n)
    have hb := val_lt (db.take n)
    have ha0 := val_nonneg (da.take n)
    have hb0 := val_nonneg (db.take n)
    have hp : ∀ (l : List Int), (B : Int) ^ (l.take n).length ≤ (B : Int) ^ n := fun l => by
      have : B ^ (l.take n).length ≤ B ^ n := Nat.pow_le_pow_right (by omega) (by simp; omega)
      exact_mod_cast this
    have h1 := hp a
    have h2 := hp b
    unfold cmpAt
    by_cases e : gt a n = gt b n
    · rw [if_pos e, e]
      constructor
      · rw [ih.1]; omega
      · rw [ih.2]; omega
    · rw [if_neg e]
      by_cases e2 : gt a n < gt b n
      · rw [if_pos e2]
        have h3 : (B : Int) ^ n * (gt a n + 1) ≤ (B : Int) ^ n * gt b n := Int.mul_le_mul_of_nonneg_left (by omega) (by omega)
        rw [Int.mul_add, Int.mul_one] at h3
        constructor
        · constructor
          · intro _; omega
          · intro _; omega
        · constructor
          · intro h; omega
          · intro h; omega
      · rw [if_neg e2]
        have h3 : (B : Int) ^ n * (gt b n + 1) ≤ (B : Int) ^ n * gt a n := Int.mul_le_mul_of_nonneg_left (by omega) (by omega)
        rw [Int.mul_add, Int.mul_one] at h3
        constructor
        · constructor
          · intro h; omega
          · intro h; omega
        · constructor
          · intro h; omega
          · intro h; omega

theorem can_len_lt {B : Nat} (hB : 1 < B) {a b : List Int} (da : Dig B a) (db : Dig B b) (cb : Can b) (h : a.length < b.length) : val B a < val B b := by
  have h1 := val_lt da
  have h2 : (B : Int) ^ (b.length - 1) ≤ val B b := by
    have e := val_take_succ (B := B) b (b.length - 1)
    rw [val_take_all (by omega)] at e
    have h3 := val_nonneg (db.take (b.length - 1))
    have h4 : 1 ≤ gt b (b.length - 1) := by
      have h5 := db.gt (by omega) (b.length - 1)
      have h6 : gt b (b.length - 1) ≠ 0 := by
        intro h7
        unfold Can at cb
        rw [List.getLast?_eq_getElem?] at cb
        rw [gt_some (by omega), h7] at cb
        exact cb rfl
      omega
    have h8 : (B : Int) ^ (b.length - 1) * 1 ≤ (B : Int) ^ (b.length - 1) * gt b (b.length - 1) := Int.mul_le_mul_of_nonneg_left h4 (by
      have : 0 ≤ ((B ^ (b.length - 1) : Nat) : Int) := Int.natCast_nonneg _
      rwa [Int.natCast_pow] at this)
    omega
  have h9 : (B : Int) ^ a.length ≤ (B : Int) ^ (b.length - 1) := by
    have : B ^ a.length ≤ B ^ (b.length - 1) := Nat.pow_le_pow_right (by omega) (by omega)
    exact_mod_cast this
  omega

theorem cmpI_spec {B : Nat} (hB : 1 < B) {a b : List Int} (da : Dig B a) (db : Dig B b) (ca : Can a) (cb : Can b) : (cmpI a b < 0 ↔ val B a < val B b) ∧ (cmpI a b = 0 ↔ val B a = val B b) := by
  by_cases h : a.length = b.length
  · rw [cmpI_of h]
    have := cmpAt_spec hB da db a.length
    rwa [val_take_all (Nat.le_refl _), val_take_all (by omega)] at this
  · rw [cmpI_ne h]
    rcases Nat.lt_or_gt_of_ne h with h1 | h1
    · have := can_len_lt hB da db cb h1
      omega
    · have := can_len_lt hB db da ca h1
      omega
theorem cmpI_mag (a b : Int) : (cmpI (mag a) (mag b) < 0 ↔ a.natAbs < b.natAbs) ∧ (cmpI (mag a) (mag b) = 0 ↔ a.natAbs = b.natAbs) := by
  have := cmpI_spec (B := 18446744073709551616) (by omega) (mag_dig a) (mag_dig b) (mag_can a) (mag_can b)
  rw [mag_val, mag_val] at this
  omega
end Go.Proofs.Ytgeecahbahgjbaa

/- Arithmetic of 64 bits in halves. -/
namespace Go.Proofs.Ytgeecahbahgjbaa
open Go

theorem mul64_hi (x y : Int) (hx0 : 0 ≤ x) (hx : x < 18446744073709551616) (hy0 : 0 ≤ y) (hy : y < 18446744073709551616) :
    (x / 4294967296 * (y / 4294967296) +
                (x / 4294967296 * (y % 4294967296) +
                      x % 4294967296 * (y % 4294967296) % 18446744073709551616 / 4294967296) %
                    18446744073709551616 /
                  4294967296 +
              ((x / 4294967296 * (y % 4294967296) +
                        x % 4294967296 * (y % 4294967296) % 18446744073709551616 / 4294967296) %
                      4294967296 +
                    x % 4294967296 * (y / 4294967296)) %
                  18446744073709551616 /
                4294967296) %
            18446744073709551616 = x * y / 18446744073709551616 := by
  have ex : x = x / 4294967296 * 4294967296 + x % 4294967296 := by omega
  have ey : y = y / 4294967296 * 4294967296 + y % 4294967296 := by omega
  generalize hx1 : x / 4294967296 = x1 at *
  generalize hx0' : x % 4294967296 = x0 at *
  generalize hy1 : y / 4294967296 = y1 at *
  generalize hy0' : y % 4294967296 = y0 at *
  have b1 : 0 ≤ x1 ∧ x1 ≤ 4294967295 := by omega
  have b2 : 0 ≤ x0 ∧ x0 ≤ 4294967295 := by omega
  have b3 : 0 ≤ y1 ∧ y1 ≤ 4294967295 := by omega
  have b4 : 0 ≤ y0 ∧ y0 ≤ 4294967295 := by omega
  have pA := prod_bound x1 y1 b1.1 b1.2 b3.1 b3.2
  have pB := prod_bound x1 y0 b1.1 b1.2 b4.1 b4.2
  have pC := prod_bound x0 y0 b2.1 b2.2 b4.1 b4.2
  have pD := prod_bound x0 y1 b2.1 b2.2 b3.1 b3.2
  have hxy : x * y = x1 * y1 * 18446744073709551616 + (x1 * y0 + x0 * y1) * 4294967296 + x0 * y0 := by rw [ex, ey]; exact split_mul x1 x0 y1 y0
  rw [hxy]
  generalize x1 * y1 = A at *
  generalize x1 * y0 = B at *
  generalize x0 * y0 = C at *
  generalize x0 * y1 = D at *
  omega

theorem tab_of (tab : ByteArray) (h : ((List.range 256).all fun j => match tab[j]? with | some c => c.toNat == bitLen j | none => false) = true) (y : Nat) (hy : y < 256) :
    (match tab[y]? with | some c => some (AV.int .u8 c.toNat) | none => none) = some (.int .u8 (bitLen y : Int)) := by
  have := List.all_eq_true.mp h y (List.mem_range.mpr hy)
  split at this
  · rename_i c hc
    have e : c.toNat = bitLen y := by simpa using this
    simp [e]
  · simp at this

theorem bitLen_le64 {x : Nat} (hx : x < 18446744073709551616) : bitLen x ≤ 64 := by
  unfold bitLen; split
  · omega
  · rename_i h0
    have := (Nat.log2_lt h0).2 (show x < 2 ^ 64 from hx)
    omega
theorem bitLen_of {n k : Nat} (h1 : 2 ^ k ≤ n) (h2 : n < 2 ^ (k + 1)) : bitLen n = k + 1 := by
  have hn : n ≠ 0 := by have := Nat.two_pow_pos k; omega
  unfold bitLen
  rw [if_neg hn]
  have e := (Nat.log2_eq_iff hn).2 ⟨h1, h2⟩
  omega
/-- The bits of a number by its highest word. -/
theorem bitLen_top (z : Int) (q : Nat) (h : 0 < (mag z).length) (hq : gt (mag z) ((mag z).length - 1) = (q : Int)) : bitLen z.natAbs + 64 = 64 * (mag z).length + bitLen q := by
  have hz := mag_val z
  have e := val_take_succ (B := 18446744073709551616) (mag z) ((mag z).length - 1)
  rw [val_take_all (by omega), hz, hq] at e
  have h1 := val_lt ((mag_dig z).take ((mag z).length - 1))
  have h2 := val_nonneg ((mag_dig z).take ((mag z).length - 1))
  have hlen : ((mag z).take ((mag z).length - 1)).length = (mag z).length - 1 := by simp
  rw [hlen] at h1
  generalize hm : (mag z).length - 1 = m at *
  generalize val 18446744073709551616 ((mag z).take m) = v at *
  obtain ⟨V, rfl⟩ := Int.eq_ofNat_of_zero_le h2
  have hP : ((18446744073709551616 : Nat) : Int) ^ m = ((18446744073709551616 ^ m : Nat) : Int) := by rw [Int.natCast_pow]
  rw [hP] at e h1
  have hp2 : 18446744073709551616 ^ m = 2 ^ (64 * m) := by rw [Nat.pow_mul]
  rw [hp2] at e h1
  have hq0 : q ≠ 0 := by
    intro h0
    subst h0
    have hcan := mag_can z
    unfold Can at hcan
    rw [List.getLast?_eq_getElem?, hm, gt_some (by omega), hq] at hcan
    exact hcan rfl
  have hb : bitLen q = q.log2 + 1 := by unfold bitLen; rw [if_neg hq0]
  have hl1 := Nat.log2_self_le hq0
  have hl2 : q < 2 ^ (q.log2 + 1) := Nat.lt_log2_self
  have hV : V < 2 ^ (64 * m) := by omega
  have e' : z.natAbs = V + 2 ^ (64 * m) * q := by
    have : ((2 ^ (64 * m) : Nat) : Int) * (q : Int) = ((2 ^ (64 * m) * q : Nat) : Int) := by rw [Int.natCast_mul]
    rw [this] at e; omega
  have r1 : 2 ^ (64 * m + q.log2) ≤ z.natAbs := by
    rw [e', Nat.pow_add]
    have := Nat.mul_le_mul_left (2 ^ (64 * m)) hl1
    omega
  have r2 : z.natAbs < 2 ^ (64 * m + q.log2 + 1) := by
    rw [e', Nat.add_assoc, Nat.pow_add]
    have := Nat.mul_le_mul_left (2 ^ (64 * m)) (show q + 1 ≤ 2 ^ (q.log2 + 1) by omega)
    rw [Nat.mul_add] at this
    omega
  have := bitLen_of r1 r2
  omega

theorem xor_all {b : Nat} (hb : b < 18446744073709551616) : 18446744073709551615 ^^^ b = 18446744073709551615 - b := by
  have e1 : (18446744073709551615 : Nat) = 2 ^ 64 - 1 := rfl
  have e2 : 18446744073709551615 - b = 2 ^ 64 - (b + 1) := by omega
  rw [e2, e1]
  apply Nat.eq_of_testBit_eq
  intro i
  rw [Nat.testBit_xor, Nat.testBit_two_pow_sub_one, Nat.testBit_two_pow_sub_succ hb]
  by_cases hi : i < 64
  · simp [hi]
  · have hp : 2 ^ 64 ≤ 2 ^ i := Nat.pow_le_pow_right (show 0 < 2 by decide) (show 64 ≤ i by omega)
    have : b.testBit i = false := Nat.testBit_lt_two_pow (Nat.lt_of_lt_of_le (show b < 2 ^ 64 from hb) hp)
    simp [hi, this]
theorem not_u64 {x : Int} (h0 : 0 ≤ x) (h1 : x < 18446744073709551616) : bits .xor .u64 (if IntKind.u64.signed = true then -1 else IntKind.u64.max) x = 18446744073709551615 - x := by
  have e : (if IntKind.u64.signed = true then (-1 : Int) else IntKind.u64.max) = 18446744073709551615 := rfl
  rw [e, u64_xor _ _ (by omega) (by omega) h0 h1]
  have := xor_all (b := x.toNat) (by omega)
  rw [show (18446744073709551615 : Int).toNat = 18446744073709551615 from rfl, this]
  omega
end Go.Proofs.Ytgeecahbahgjbaa

/- Numbers of 256 bits. -/
namespace Go.Proofs.Ytgeecahbahgjbaa
open Go

/-- A number of 256 bits by its four words, and its value. -/
def wdI (w3 w2 w1 w0 : Int) : AV := .agg [.int .u64 w3, .int .u64 w2, .int .u64 w1, .int .u64 w0]
def uval (w3 w2 w1 w0 : Int) : Int := w0 + 18446744073709551616 * (w1 + 18446744073709551616 * (w2 + 18446744073709551616 * w3))
def sval (w3 w2 w1 w0 : Int) : Int := if w3 < 9223372036854775808 then uval w3 w2 w1 w0 else uval w3 w2 w1 w0 - 115792089237316195423570985008687907853269984665640564039457584007913129639936
def U64 (x : Int) : Prop := 0 ≤ x ∧ x < 18446744073709551616

theorem val4 (a b c d : Int) : val 18446744073709551616 [a, b, c, d] = uval d c b a := by simp [val, uval]
theorem list4 {l : List Int} (h : l.length = 4) : l = [gt l 0, gt l 1, gt l 2, gt l 3] := by
  match l, h with
  | [a, b, c, d], _ => rfl
theorem dig4 {a b c d : Int} (ha : U64 a) (hb : U64 b) (hc : U64 c) (hd : U64 d) : Dig 18446744073709551616 [a, b, c, d] :=
  Dig.cons ha.1 ha.2 (Dig.cons hb.1 hb.2 (Dig.cons hc.1 hc.2 (Dig.cons hd.1 hd.2 (Dig.nil _))))
theorem sval_bg {a b c d : Int} (ha : U64 a) (hb : U64 b) (hc : U64 c) (hd : U64 d) : Bg 4 (sval a b c d) := by
  unfold Bg sval uval
  unfold U64 at *
  split <;> omega
theorem comp4 (a b c d : Int) : uval (18446744073709551615 - a) (18446744073709551615 - b) (18446744073709551615 - c) (18446744073709551615 - d) = 115792089237316195423570985008687907853269984665640564039457584007913129639935 - uval a b c d := by
  unfold uval; omega

/-- A number told in 256 bits. -/
def fits (z : Int) : Bool := decide (-57896044618658097711785492504343953926634992332820282019728792003956564819968 ≤ z ∧ z < 57896044618658097711785492504343953926634992332820282019728792003956564819968)
def modW (z : Int) : Int := z % 115792089237316195423570985008687907853269984665640564039457584007913129639936
def wdZ (z : Int) : AV := wdI (modW z / 18446744073709551616 / 18446744073709551616 / 18446744073709551616) (modW z / 18446744073709551616 / 18446744073709551616 % 18446744073709551616) (modW z / 18446744073709551616 % 18446744073709551616) (modW z % 18446744073709551616)
def wdT (z : Int) : AV := if fits z then wdZ z else wdI 0 0 0 0
theorem bitLen_le {n k : Nat} : bitLen n ≤ k ↔ n < 2 ^ k := by
  have h := bitLen_spec n
  constructor
  · intro hk
    exact Nat.lt_of_lt_of_le h.1 (Nat.pow_le_pow_right (by omega) hk)
  · intro hk
    rcases Nat.lt_or_ge k (bitLen n) with hlt | hge
    · exfalso
      have hn : n ≠ 0 := by
        intro e; subst e; simp [bitLen] at hlt
      have h2 := h.2 hn
      have : 2 ^ k ≤ 2 ^ (bitLen n - 1) := Nat.pow_le_pow_right (by omega) (by omega)
      omega
    · exact hge
theorem fits_iff {z : Int} : (bitLen (if z < 0 then z + 1 else z).natAbs ≤ 255) ↔ fits z = true := by
  rw [bitLen_le, fits, decide_eq_true_eq]
  have e : (2 : Nat) ^ 255 = 57896044618658097711785492504343953926634992332820282019728792003956564819968 := by decide
  rw [e]
  split <;> omega
/-- Four words of a row that may be shorter. -/
theorem words4 {l : List Int} (hd : Dig 18446744073709551616 l) (hl : l.length ≤ 4) : val 18446744073709551616 l = uval (gt l 3) (gt l 2) (gt l 1) (gt l 0) ∧ U64 (gt l 0) ∧ U64 (gt l 1) ∧ U64 (gt l 2) ∧ U64 (gt l 3) := by
  refine ⟨?_, hd.gt (by omega) 0, hd.gt (by omega) 1, hd.gt (by omega) 2, hd.gt (by omega) 3⟩
  match l, hl with
  | [], _ => simp [val, uval, gt]
  | [a], _ => simp [val, uval, gt]
  | [a, b], _ => simp [val, uval, gt]
  | [a, b, c], _ => simp [val, uval, gt]
  | [a, b, c, d], _ => simp [val, uval, gt]
theorem wdZ_pos {z a b c d : Int} (ha : U64 a) (hb : U64 b) (hc : U64 c) (hd : U64 d) (h0 : 0 ≤ z) (h : z = uval a b c d) : wdZ z = wdI a b c d := by
  unfold wdZ modW wdI
  unfold uval at h
  unfold U64 at *
  rw [h]
  congr 1
  congr 1
  · congr 1; omega
  congr 1
  · congr 1; omega
  congr 1
  · congr 1; omega
  congr 1
  · congr 1; omega
theorem wdZ_neg {z a b c d : Int} (ha : U64 a) (hb : U64 b) (hc : U64 c) (hd : U64 d) (h : -z - 1 = uval a b c d) : wdZ z = wdI (18446744073709551615 - a) (18446744073709551615 - b) (18446744073709551615 - c) (18446744073709551615 - d) := by
  unfold wdZ modW wdI
  unfold uval at h
  unfold U64 at *
  have e : z = -(d + 18446744073709551616 * (c + 18446744073709551616 * (b + 18446744073709551616 * a))) - 1 := by omega
  rw [e]
  congr 1
  congr 1
  · congr 1; omega
  congr 1
  · congr 1; omega
  congr 1
  · congr 1; omega
  congr 1
  · congr 1; omega
theorem idf_wdZ (z : Int) : idf (wdZ z) = True := by unfold wdZ wdI; simp [idf, idfL]
def wdC (z : Int) : List AV := [.int .u64 (modW z / 18446744073709551616 / 18446744073709551616 / 18446744073709551616), .int .u64 (modW z / 18446744073709551616 / 18446744073709551616 % 18446744073709551616), .int .u64 (modW z / 18446744073709551616 % 18446744073709551616), .int .u64 (modW z % 18446744073709551616)]
theorem cells_wdZ (z : Int) : avCells (wdZ z) = some (wdC z) := rfl
theorem wdC_len (z : Int) : (wdC z).length = 4 := rfl
theorem wdC_all (z : Int) : (wdC z).all avOne = true := rfl
theorem wdC_one (z : Int) : (∀ x ∈ wdC z, avOne x = true) = True := by simp [wdC, avOne]
theorem wdC_take (z : Int) : (wdC z).take 4 = wdC z := rfl
theorem wdC_agg (z : Int) : AV.agg (wdC z) = wdZ z := rfl
theorem idf_wdT (z : Int) : idf (wdT z) = True := by
  unfold wdT wdZ wdI; split <;> simp [idf, idfL]
end Go.Proofs.Ytgeecahbahgjbaa

/- Whole numbers with digits in base 2 to the 32: as values of the reference. -/
namespace Go.Proofs.Ytgeecahbahgjbaa
open Go Go.RowKit

def dg (z : Int) : List Int := digs 4294967296 z.natAbs
def numS (z : Int) : AV := .agg [.bool (decide (z < 0)), Wd .u32 (dg z)]
theorem dg_dig (z : Int) : Dig 4294967296 (dg z) := digs_dig (by omega) _
theorem dg_can (z : Int) : Can (dg z) := digs_can (by omega) _
theorem dg_val (z : Int) : val 4294967296 (dg z) = (z.natAbs : Int) := digs_val (by omega) _
theorem dg_abs (z : Int) : dg (z.natAbs : Int) = dg z := by simp [dg]
theorem dg_neg (z : Int) : dg (-z) = dg z := by simp [dg]
theorem dg_zero : dg 0 = [] := digs_zero _
theorem dg_nil {z : Int} : dg z = [] ↔ z = 0 := by unfold dg; rw [digs_eq_nil (by omega)]; omega
theorem dg_len0 {z : Int} : (dg z).length = 0 ↔ z = 0 := by rw [List.length_eq_zero_iff, dg_nil]
theorem dg_of {l : List Int} (h : Dig 4294967296 l) : trimW l = dg (val 4294967296 l) := by
  have := val_nonneg h
  rw [trimW_digs (by omega) h, dg]; congr 1; omega
theorem Bg.len32 {k : Nat} {z : Int} (h : Bg k z) : (dg z).length ≤ 2 * k := by
  refine digs_length_le (by omega) _ _ ?_
  have : (4294967296 : Nat) ^ (2 * k) = 18446744073709551616 ^ k := by rw [Nat.pow_mul]
  rw [this]; exact h
theorem numS_mk {b : Bool} {l : List Int} (h : Dig 4294967296 l) (hn : trimW l ≠ []) : AV.agg [.bool b, Wd .u32 (trimW l)] = numS (sg b (val 4294967296 l)) := by
  have h0 := val_nonneg h
  have e1 : dg (sg b (val 4294967296 l)) = trimW l := by
    rw [dg_of h]
    cases b
    · rfl
    · exact dg_neg _
  have h1 : val 4294967296 l ≠ 0 := by
    intro e
    rw [dg_of h, e, dg_zero] at hn
    exact hn rfl
  unfold numS
  rw [e1]
  have : decide (sg b (val 4294967296 l) < 0) = b := by
    cases b
    · simp [sg]; omega
    · simp [sg]; omega
  rw [this]
theorem nS0_weak {w : World} {β : Nat → Option Loc} {b : Nat → Bool} {v : Value} (h : VR w β b (.agg [.bool false, .nsl]) v) : VR w β b (numS 0) v := by
  obtain ⟨vs, rfl, u, r, e, h1, u2, r2, e2, h2, h3⟩ := h
  exact ⟨vs, rfl, u, r, e, h1, u2, r2, e2, (by rw [dg_zero]; exact nsl_Wd .u32 h2), h3⟩
theorem sg_zero (b : Bool) : sg b 0 = 0 := by cases b <;> rfl
theorem cells_numS (z : Int) : avCells (numS z) = some [.bool (decide (z < 0)), Wd .u32 (dg z)] := rfl
theorem numS_fold (z : Int) : AV.agg [.bool (decide (z < 0)), Wd .u32 (dg z)] = numS z := rfl
theorem idf_numS (z : Int) : idf (numS z) = True := by simp [numS, idf, idfL, idf_Wd']
theorem take_succ_gt {l : List Int} {m : Nat} (h : m < l.length) : l.take (m + 1) = l.take m ++ [gt l m] := by
  rw [List.take_add_one, gt_some h]; rfl
def cmpS (a b : List Int) : Int := if a.length = b.length then cmpAt a b a.length else if a.length < b.length then -1 else 1
theorem cmpS_spec {B : Nat} (hB : 1 < B) {a b : List Int} (da : Dig B a) (db : Dig B b) (ca : Can a) (cb : Can b) : (cmpS a b < 0 ↔ val B a < val B b) ∧ (cmpS a b = 0 ↔ val B a = val B b) := by
  unfold cmpS
  by_cases h : a.length = b.length
  · rw [if_pos h]
    have := cmpAt_spec hB da db a.length
    rwa [val_take_all (Nat.le_refl _), val_take_all (by omega)] at this
  · rw [if_neg h]
    rcases Nat.lt_or_gt_of_ne h with h1 | h1
    · have := can_len_lt hB da db cb h1
      rw [if_pos h1]; omega
    · have := can_len_lt hB db da ca h1
      rw [if_neg (by omega)]; omega
theorem cmpS_dg (a b : Int) : (cmpS (dg a) (dg b) < 0 ↔ a.natAbs < b.natAbs) ∧ (cmpS (dg a) (dg b) = 0 ↔ a.natAbs = b.natAbs) := by
  have := cmpS_spec (B := 4294967296) (by omega) (dg_dig a) (dg_dig b) (dg_can a) (dg_can b)
  rw [dg_val, dg_val] at this
  omega
/-- The bits of a number by its highest digit. -/
theorem bitLen_topS (z : Int) (q : Nat) (h : 0 < (dg z).length) (hq : gt (dg z) ((dg z).length - 1) = (q : Int)) : bitLen z.natAbs + 32 = 32 * (dg z).length + bitLen q := by
  have hz := dg_val z
  have e := val_take_succ (B := 4294967296) (dg z) ((dg z).length - 1)
  rw [val_take_all (by omega), hz, hq] at e
  have h1 := val_lt ((dg_dig z).take ((dg z).length - 1))
  have h2 := val_nonneg ((dg_dig z).take ((dg z).length - 1))
  have hlen : ((dg z).take ((dg z).length - 1)).length = (dg z).length - 1 := by simp
  rw [hlen] at h1
  generalize hm : (dg z).length - 1 = m at *
  generalize val 4294967296 ((dg z).take m) = v at *
  obtain ⟨V, rfl⟩ := Int.eq_ofNat_of_zero_le h2
  have hP : ((4294967296 : Nat) : Int) ^ m = ((4294967296 ^ m : Nat) : Int) := by rw [Int.natCast_pow]
  rw [hP] at e h1
  have hp2 : 4294967296 ^ m = 2 ^ (32 * m) := by rw [Nat.pow_mul]
  rw [hp2] at e h1
  have hq0 : q ≠ 0 := by
    intro h0
    subst h0
    have hcan := dg_can z
    unfold Can at hcan
    rw [List.getLast?_eq_getElem?, hm, gt_some (by omega), hq] at hcan
    exact hcan rfl
  have hb : bitLen q = q.log2 + 1 := by unfold bitLen; rw [if_neg hq0]
  have hl1 := Nat.log2_self_le hq0
  have hl2 : q < 2 ^ (q.log2 + 1) := Nat.lt_log2_self
  have hV : V < 2 ^ (32 * m) := by omega
  have e' : z.natAbs = V + 2 ^ (32 * m) * q := by
    have : ((2 ^ (32 * m) : Nat) : Int) * (q : Int) = ((2 ^ (32 * m) * q : Nat) : Int) := by rw [Int.natCast_mul]
    rw [this] at e; omega
  have r1 : 2 ^ (32 * m + q.log2) ≤ z.natAbs := by
    rw [e', Nat.pow_add]
    have := Nat.mul_le_mul_left (2 ^ (32 * m)) hl1
    omega
  have r2 : z.natAbs < 2 ^ (32 * m + q.log2 + 1) := by
    rw [e', Nat.add_assoc, Nat.pow_add]
    have := Nat.mul_le_mul_left (2 ^ (32 * m)) (show q + 1 ≤ 2 ^ (q.log2 + 1) by omega)
    rw [Nat.mul_add] at this
    omega
  have := bitLen_of r1 r2
  omega
theorem bitLen_half {x : Nat} (h : x ≠ 0) : bitLen x = 1 + bitLen (x / 2) := by
  by_cases h2 : x / 2 = 0
  · have : x = 1 := by omega
    subst this; decide
  · have := bitLen_shift x 1 (by simpa using h2)
    simpa using this
end Go.Proofs.Ytgeecahbahgjbaa

/- Sums and differences of rows of digits, as the reference reckons them. -/
namespace Go.Proofs.Ytgeecahbahgjbaa
open Go

/-- After so many digits: what is written, what is carried. -/
def addR (a b : List Int) : Nat → List Int × Int
  | 0 => ([], 0)
  | i + 1 => ((addR a b i).1 ++ [((addR a b i).2 + gt a i + gt b i) % 4294967296], ((addR a b i).2 + gt a i + gt b i) / 4294967296)
def subR (a b : List Int) : Nat → List Int × Int
  | 0 => ([], 0)
  | i + 1 => ((subR a b i).1 ++ [(gt a i - ((subR a b i).2 + gt b i)) % 4294967296], if gt a i < (subR a b i).2 + gt b i then 1 else 0)
def addO (a b : List Int) : List Int := (addR a b a.length).1 ++ (if (addR a b a.length).2 > 0 then [(addR a b a.length).2 % 4294967296] else [])
def addS (a b : List Int) : List Int := if a.length < b.length then addO b a else addO a b
def subS (a b : List Int) : List Int := (subR a b a.length).1

theorem addR_spec {a b : List Int} (da : Dig 4294967296 a) (db : Dig 4294967296 b) : ∀ i, (addR a b i).1.length = i ∧ Dig 4294967296 (addR a b i).1 ∧ 0 ≤ (addR a b i).2 ∧ (addR a b i).2 ≤ 1 ∧
    val 4294967296 (addR a b i).1 + (addR a b i).2 * (4294967296 : Int) ^ i = val 4294967296 (a.take i) + val 4294967296 (b.take i)
  | 0 => by simp [addR, val, Dig.nil]
  | i + 1 => by
    obtain ⟨h1, h2, h3, h4, h5⟩ := addR_spec da db i
    have ga := da.gt (by omega) i
    have gb := db.gt (by omega) i
    simp only [addR]
    generalize (addR a b i).2 = c at *
    generalize (addR a b i).1 = o at *
    refine ⟨by simp [h1], h2.append (Dig.cons (by omega) (by omega) (Dig.nil _)), by omega, by omega, ?_⟩
    rw [val_append, val_take32, val_take32, h1, Int.pow_succ]
    simp only [val]
    have := Int.emod_add_mul_ediv (c + gt a i + gt b i) 4294967296
    grind

theorem addO_spec {a b : List Int} (da : Dig 4294967296 a) (db : Dig 4294967296 b) (h : b.length ≤ a.length) : Dig 4294967296 (addO a b) ∧ (addO a b).length ≤ a.length + 1 ∧ val 4294967296 (addO a b) = val 4294967296 a + val 4294967296 b := by
  obtain ⟨h1, h2, h3, h4, h5⟩ := addR_spec da db a.length
  rw [val_take_all (Nat.le_refl _), val_take_all h] at h5
  unfold addO
  generalize (addR a b a.length).2 = c at *
  generalize (addR a b a.length).1 = o at *
  split
  · refine ⟨h2.append (Dig.cons (by omega) (by omega) (Dig.nil _)), by simp [h1], ?_⟩
    rw [val_append, h1]
    simp only [val]
    have : c = 1 := by omega
    subst this
    have e : (1 : Int) % 4294967296 = 1 := rfl
    rw [e]
    have e2 : ((4294967296 : Nat) : Int) = (4294967296 : Int) := rfl
    rw [e2]; omega
  · have : c = 0 := by omega
    subst this
    exact ⟨by simpa using h2, by simp [h1], by simp; omega⟩
theorem addS_spec {a b : List Int} (da : Dig 4294967296 a) (db : Dig 4294967296 b) : Dig 4294967296 (addS a b) ∧ (addS a b).length ≤ max a.length b.length + 1 ∧ val 4294967296 (addS a b) = val 4294967296 a + val 4294967296 b := by
  unfold addS
  split
  · have := addO_spec db da (by omega)
    exact ⟨this.1, by omega, by omega⟩
  · have := addO_spec da db (by omega)
    exact ⟨this.1, by omega, by omega⟩

theorem subR_spec {a b : List Int} (da : Dig 4294967296 a) (db : Dig 4294967296 b) : ∀ i, (subR a b i).1.length = i ∧ Dig 4294967296 (subR a b i).1 ∧ 0 ≤ (subR a b i).2 ∧ (subR a b i).2 ≤ 1 ∧
    val 4294967296 (subR a b i).1 - (subR a b i).2 * (4294967296 : Int) ^ i = val 4294967296 (a.take i) - val 4294967296 (b.take i)
  | 0 => by simp [subR, val, Dig.nil]
  | i + 1 => by
    obtain ⟨h1, h2, h3, h4, h5⟩ := subR_spec da db i
    have ga := da.gt (by omega) i
    have gb := db.gt (by omega) i
    simp only [subR]
    generalize (subR a b i).2 = c at *
    generalize (subR a b i).1 = o at *
    refine ⟨by simp [h1], h2.append (Dig.cons (by omega) (by omega) (Dig.nil _)), by split <;> omega, by split <;> omega, ?_⟩
    rw [val_append, val_take32, val_take32, h1, Int.pow_succ]
    simp only [val]
    have e : (gt a i - (c + gt b i)) % 4294967296 = gt a i - (c + gt b i) + 4294967296 * (if gt a i < c + gt b i then (1 : Int) else 0) := by split <;> omega
    rw [e]
    grind
theorem subS_spec {a b : List Int} (da : Dig 4294967296 a) (db : Dig 4294967296 b) (h : b.length ≤ a.length) (hv : val 4294967296 b ≤ val 4294967296 a) : Dig 4294967296 (subS a b) ∧ (subS a b).length = a.length ∧ val 4294967296 (subS a b) = val 4294967296 a - val 4294967296 b := by
  obtain ⟨h1, h2, h3, h4, h5⟩ := subR_spec da db a.length
  rw [val_take_all (Nat.le_refl _), val_take_all h] at h5
  unfold subS
  have h6 := val_lt32 h2
  rw [h1] at h6
  generalize (subR a b a.length).2 = c at *
  generalize (subR a b a.length).1 = o at *
  refine ⟨h2, h1, ?_⟩
  have : c = 0 ∨ c = 1 := by omega
  rcases this with rfl | rfl
  · omega
  · exfalso; omega
end Go.Proofs.Ytgeecahbahgjbaa

/- A row of digits moved up by bits, as the reference reckons it. -/
namespace Go.Proofs.Ytgeecahbahgjbaa
open Go

def leftR (d : List Int) (p : Int) : Nat → List Int × Int
  | 0 => ([], 0)
  | i + 1 => ((leftR d p i).1 ++ [((leftR d p i).2 + gt d i * p) % 4294967296], ((leftR d p i).2 + gt d i * p) / 4294967296)

theorem leftR_spec {d : List Int} (dd : Dig 4294967296 d) {p : Int} (hp : 1 ≤ p) : ∀ i, (leftR d p i).1.length = i ∧ Dig 4294967296 (leftR d p i).1 ∧ 0 ≤ (leftR d p i).2 ∧ (leftR d p i).2 < p ∧
    val 4294967296 (leftR d p i).1 + (leftR d p i).2 * (4294967296 : Int) ^ i = val 4294967296 (d.take i) * p
  | 0 => by simp [leftR, val, Dig.nil]; omega
  | i + 1 => by
    obtain ⟨h1, h2, h3, h4, h5⟩ := leftR_spec dd hp i
    have gd := dd.gt (by omega) i
    simp only [leftR]
    generalize (leftR d p i).2 = c at *
    generalize (leftR d p i).1 = o at *
    have hm : gt d i * p ≤ 4294967295 * p := Int.mul_le_mul_of_nonneg_right (by omega) (by omega)
    have hm0 : 0 ≤ gt d i * p := Int.mul_nonneg gd.1 (by omega)
    refine ⟨by simp [h1], h2.append (Dig.cons (by omega) (by omega) (Dig.nil _)), by omega, by omega, ?_⟩
    rw [val_append, val_take32, h1, Int.pow_succ]
    simp only [val]
    have := Int.emod_add_mul_ediv (c + gt d i * p) 4294967296
    grind

def leftL (d : List Int) (q : Nat) (p : Int) : List Int := List.replicate q 0 ++ (leftR d p d.length).1 ++ (if (leftR d p d.length).2 > 0 then [(leftR d p d.length).2 % 4294967296] else [])
theorem leftL_spec {d : List Int} (dd : Dig 4294967296 d) (q : Nat) {p : Int} (hp : 1 ≤ p) (hp2 : p ≤ 2147483648) : Dig 4294967296 (leftL d q p) ∧ (leftL d q p).length ≤ q + d.length + 1 ∧ val 4294967296 (leftL d q p) = (4294967296 : Int) ^ q * (val 4294967296 d * p) := by
  obtain ⟨h1, h2, h3, h4, h5⟩ := leftR_spec dd hp d.length
  rw [val_take_all (Nat.le_refl _)] at h5
  unfold leftL
  generalize (leftR d p d.length).2 = c at *
  generalize (leftR d p d.length).1 = o at *
  have hr : Dig 4294967296 (List.replicate q (0 : Int)) := Dig.replicate _ (by omega) (by omega)
  split
  · refine ⟨(hr.append h2).append (Dig.cons (by omega) (by omega) (Dig.nil _)), by simp [h1]; omega, ?_⟩
    rw [val_append, val_append, val_replicate]
    simp only [List.length_append, List.length_replicate, h1, val]
    have e : c % 4294967296 = c := Int.emod_eq_of_lt h3 (by omega)
    rw [e, Int.pow_add]
    have e2 : ((4294967296 : Nat) : Int) = (4294967296 : Int) := rfl
    rw [e2]
    grind
  · have : c = 0 := by omega
    subst this
    refine ⟨by simpa using hr.append h2, by simp [h1], ?_⟩
    rw [List.append_nil, val_append, val_replicate]
    simp only [List.length_replicate]
    have e2 : ((4294967296 : Nat) : Int) = (4294967296 : Int) := rfl
    rw [e2]
    grind
/-- Or of parts that do not meet. -/
theorem or_join {c d : Int} {k : Nat} (hc0 : 0 ≤ c) (hc : c < 2 ^ k) (hd : 0 ≤ d) (ht : d * 2 ^ k < 18446744073709551616) (hc2 : c < 18446744073709551616) : bits .or .u64 c (d * 2 ^ k) = c + d * 2 ^ k := by
  have hp : (0 : Int) < 2 ^ k := Int.pow_pos (by omega)
  have h0 : 0 ≤ d * 2 ^ k := Int.mul_nonneg hd (by omega)
  rw [u64_or c _ hc0 hc2 h0 ht]
  obtain ⟨C, rfl⟩ := Int.eq_ofNat_of_zero_le hc0
  obtain ⟨D, rfl⟩ := Int.eq_ofNat_of_zero_le hd
  have e : ((D : Int) * 2 ^ k).toNat = D * 2 ^ k := by
    have : (D : Int) * 2 ^ k = ((D * 2 ^ k : Nat) : Int) := by simp
    rw [this, Int.toNat_natCast]
  have hC : C < 2 ^ k := by
    have : ((2 ^ k : Nat) : Int) = (2 : Int) ^ k := by simp
    omega
  rw [e, Int.toNat_natCast, Nat.or_comm, nat_join k (D * 2 ^ k) C (by simp) hC]
  push_cast
  omega
end Go.Proofs.Ytgeecahbahgjbaa

/- A number of 256 bits in eight digits. -/
namespace Go.Proofs.Ytgeecahbahgjbaa
open Go

def row8 (w3 w2 w1 w0 : Int) : List Int := [w0 % 4294967296, w0 / 4294967296, w1 % 4294967296, w1 / 4294967296, w2 % 4294967296, w2 / 4294967296, w3 % 4294967296, w3 / 4294967296]
theorem dig8 {w3 w2 w1 w0 : Int} (h0 : 0 ≤ w0 ∧ w0 < 18446744073709551616) (h1 : 0 ≤ w1 ∧ w1 < 18446744073709551616) (h2 : 0 ≤ w2 ∧ w2 < 18446744073709551616) (h3 : 0 ≤ w3 ∧ w3 < 18446744073709551616) : Dig 4294967296 (row8 w3 w2 w1 w0) := by
  unfold row8
  exact Dig.cons (by omega) (by omega) (Dig.cons (by omega) (by omega) (Dig.cons (by omega) (by omega) (Dig.cons (by omega) (by omega) (Dig.cons (by omega) (by omega) (Dig.cons (by omega) (by omega) (Dig.cons (by omega) (by omega) (Dig.cons (by omega) (by omega) (Dig.nil _))))))))
theorem val8 (w3 w2 w1 w0 : Int) : val 4294967296 (row8 w3 w2 w1 w0) = uval w3 w2 w1 w0 := by
  simp only [row8, val, uval]
  have e : ((4294967296 : Nat) : Int) = (4294967296 : Int) := rfl
  rw [e]; omega
theorem row8_top : (dg 115792089237316195423570985008687907853269984665640564039457584007913129639936).length ≤ 9 := digs_length_le (by omega) 9 _ (by decide)
theorem row8_len (w3 w2 w1 w0 : Int) : (row8 w3 w2 w1 w0).length ≤ (dg 115792089237316195423570985008687907853269984665640564039457584007913129639936).length := by
  show 8 ≤ _
  rcases Nat.lt_or_ge (dg 115792089237316195423570985008687907853269984665640564039457584007913129639936).length 8 with h | h
  · exfalso
    have h1 := val_lt32 (dg_dig 115792089237316195423570985008687907853269984665640564039457584007913129639936)
    rw [dg_val] at h1
    have h2 : (4294967296 : Nat) ^ (dg 115792089237316195423570985008687907853269984665640564039457584007913129639936).length ≤ 4294967296 ^ 8 := Nat.pow_le_pow_right (by omega) (by omega)
    have h3 : ((4294967296 : Int)) ^ (dg 115792089237316195423570985008687907853269984665640564039457584007913129639936).length = ((4294967296 ^ (dg 115792089237316195423570985008687907853269984665640564039457584007913129639936).length : Nat) : Int) := by simp
    rw [h3] at h1
    have h4 : (4294967296 : Nat) ^ 8 = 115792089237316195423570985008687907853269984665640564039457584007913129639936 := by decide
    omega
  · exact h
end Go.Proofs.Ytgeecahbahgjbaa

/- Eight digits as a number of 256 bits. -/
namespace Go.Proofs.Ytgeecahbahgjbaa
open Go

theorem or_join2 {c d : Int} (hc0 : 0 ≤ c) (hc : c < 4294967296) (hd : 0 ≤ d) (hd2 : d < 4294967296) : bits .or .u64 (d * 4294967296) c = d * 4294967296 + c := by
  have h := or_join (c := c) (d := d) (k := 32) hc0 (by simpa using hc) hd (by simp; omega) (by omega)
  have e : (2 : Int) ^ 32 = 4294967296 := rfl
  rw [e] at h
  rw [u64_or _ _ (by omega) (by omega) hc0 (by omega), Nat.or_comm, ← u64_or _ _ hc0 (by omega) (by omega) (by omega), h]
  omega
/-- A row's value by its first eight digits, the others being none. -/
theorem val_8 {l : List Int} (hd : Dig 4294967296 l) (h : val 4294967296 l < 115792089237316195423570985008687907853269984665640564039457584007913129639936) :
    val 4294967296 l = uval (gt l 7 * 4294967296 + gt l 6) (gt l 5 * 4294967296 + gt l 4) (gt l 3 * 4294967296 + gt l 2) (gt l 1 * 4294967296 + gt l 0) := by
  have e0 : val 4294967296 l = val 4294967296 (l.take 8) + (4294967296 : Int) ^ 8 * val 4294967296 (l.drop 8) := by
    by_cases h8 : 8 ≤ l.length
    · have := val_append (B := 4294967296) (l.take 8) (l.drop 8)
      rw [List.take_append_drop] at this
      rw [this]
      simp [Nat.min_eq_left h8]
    · rw [List.take_of_length_le (by omega), List.drop_of_length_le (by omega)]; simp [val]
  have h1 := val_nonneg (hd.drop 8)
  have h2 := val_nonneg (hd.take 8)
  have e8 : (4294967296 : Int) ^ 8 = 115792089237316195423570985008687907853269984665640564039457584007913129639936 := by decide
  rw [e8] at e0
  have h3 : val 4294967296 (l.drop 8) = 0 := by omega
  rw [e0, h3]
  have t := fun i => val_take32 l i
  rw [t 7, t 6, t 5, t 4, t 3, t 2, t 1, t 0]
  simp only [List.take_zero, val, uval]
  omega
theorem row7_top : (dg 57896044618658097711785492504343953926634992332820282019728792003956564819968).length ≤ 8 := digs_length_le (by omega) 8 _ (by decide)
end Go.Proofs.Ytgeecahbahgjbaa

/- Division bit by bit, as the reference reckons it. -/
namespace Go.Proofs.Ytgeecahbahgjbaa
open Go

theorem pow2_pos (k : Nat) : (0 : Int) < 2 ^ k := Int.pow_pos (by omega)
theorem pow2_cast (k : Nat) : ((2 ^ k : Nat) : Int) = (2 : Int) ^ k := by simp
theorem pow2_32 (q : Nat) : (4294967296 : Int) ^ q = 2 ^ (32 * q) := by rw [Int.pow_mul]; rfl
theorem shl_val (v : Int) (i : Nat) : (4294967296 : Int) ^ (i / 32) * (v * 2 ^ (i % 32)) = v * 2 ^ i := by
  have e : (2 : Int) ^ i = 2 ^ (32 * (i / 32)) * 2 ^ (i % 32) := by rw [← Int.pow_add]; congr 1; omega
  rw [pow2_32, e]; grind
/-- A bit that is not set yet. -/
theorem u32_or_bit {x : Int} {k : Nat} (h0 : 0 ≤ x) (h1 : x < 4294967296) (hk : k < 32) (hm : x % 2 ^ (k + 1) = 0) : bits .or .u32 x (2 ^ k) = x + 2 ^ k ∧ x + 2 ^ k < 4294967296 ∧ (2 : Int) ^ k < 4294967296 := by
  have hp := pow2_pos k
  have e32 : (4294967296 : Int) = 2 ^ (31 - k) * 2 ^ (k + 1) := by rw [← Int.pow_add]; have : 31 - k + (k + 1) = 32 := by omega
                                                                   rw [this]; rfl
  have hs : (2 : Int) ^ (k + 1) = 2 ^ k * 2 := Int.pow_succ _ _
  have hp1 := pow2_pos (k + 1)
  have hle : x + 2 ^ (k + 1) ≤ 4294967296 := by
    obtain ⟨m, hm'⟩ := Int.dvd_of_emod_eq_zero hm
    have h2 : m < 2 ^ (31 - k) := by
      rcases Int.lt_or_le m (2 ^ (31 - k)) with h | h
      · exact h
      · exfalso
        have := Int.mul_le_mul_of_nonneg_left h (show (0 : Int) ≤ 2 ^ (k + 1) by omega)
        rw [Int.mul_comm (2 ^ (k + 1)) (2 ^ (31 - k)), ← e32, ← hm'] at this
        omega
    have := Int.mul_le_mul_of_nonneg_left (show m + 1 ≤ 2 ^ (31 - k) by omega) (show (0 : Int) ≤ 2 ^ (k + 1) by omega)
    rw [Int.mul_comm (2 ^ (k + 1)) (2 ^ (31 - k)), ← e32, Int.mul_add, ← hm'] at this
    omega
  refine ⟨?_, by omega, by omega⟩
  rw [u32_or x _ h0 h1 (by omega) (by omega)]
  obtain ⟨X, rfl⟩ := Int.eq_ofNat_of_zero_le h0
  have e : ((2 : Int) ^ k).toNat = 2 ^ k := by rw [← pow2_cast, Int.toNat_natCast]
  have hm2 : X % 2 ^ (k + 1) = 0 := by
    have : ((X % 2 ^ (k + 1) : Nat) : Int) = 0 := by rw [Int.natCast_emod, pow2_cast]; exact hm
    omega
  rw [e, Int.toNat_natCast, nat_join (k + 1) X (2 ^ k) hm2 (Nat.pow_lt_pow_right (by omega) (by omega))]
  simp

def QLow (q : List Int) (i : Nat) : Prop := (∀ j, j < i / 32 → gt q j = 0) ∧ gt q (i / 32) % 2 ^ (i % 32) = 0
theorem QLow.bit {q : List Int} {i : Nat} (h : QLow q (i + 1)) : (∀ j, j < i / 32 → gt q j = 0) ∧ gt q (i / 32) % 2 ^ (i % 32 + 1) = 0 := by
  obtain ⟨h1, h2⟩ := h
  refine ⟨fun j hj => h1 j (by omega), ?_⟩
  by_cases h : i % 32 = 31
  · have := h1 (i / 32) (by omega)
    rw [this]; simp
  · have e1 : (i + 1) / 32 = i / 32 := by omega
    have e2 : (i + 1) % 32 = i % 32 + 1 := by omega
    rwa [e1, e2] at h2
theorem mod_half {x : Int} {k : Nat} (h : x % 2 ^ (k + 1) = 0) : x % 2 ^ k = 0 := by
  obtain ⟨m, hm⟩ := Int.dvd_of_emod_eq_zero h
  refine Int.emod_eq_zero_of_dvd ⟨2 * m, ?_⟩
  rw [hm, Int.pow_succ]; grind
structure DvS (A D : Int) (q : List Int) (R : Int) (i : Nat) : Prop where
  dig : Dig 4294967296 q
  low : QLow q i
  eq : A = val 4294967296 q * D + R
  nn : 0 ≤ R
  lt : R < D * 2 ^ i
theorem DvS.skip {A D R : Int} {q : List Int} {i : Nat} (h : DvS A D q R (i + 1)) (hl : R < D * 2 ^ i) : DvS A D q R i :=
  ⟨h.dig, ⟨h.low.bit.1, mod_half h.low.bit.2⟩, h.eq, h.nn, hl⟩
theorem DvS.or {A D R : Int} {q : List Int} {i : Nat} (h : DvS A D q R (i + 1)) : bits .or .u32 (gt q (i / 32)) (2 ^ (i % 32)) = gt q (i / 32) + 2 ^ (i % 32) ∧ gt q (i / 32) + 2 ^ (i % 32) < 4294967296 ∧ (2 : Int) ^ (i % 32) < 4294967296 :=
  u32_or_bit (h.dig.gt (by omega) _).1 (h.dig.gt (by omega) _).2 (by omega) h.low.bit.2
theorem DvS.take {A D R : Int} {q : List Int} {i : Nat} (h : DvS A D q R (i + 1)) (hl : D * 2 ^ i ≤ R) (hi : i / 32 < q.length) : DvS A D (q.set (i / 32) (gt q (i / 32) + 2 ^ (i % 32))) (R - D * 2 ^ i) i := by
  have g := h.dig.gt (by omega) (i / 32)
  have o := h.or
  have hp := pow2_pos (i % 32)
  refine ⟨h.dig.set _ (by omega) (by omega), ⟨fun j hj => ?_, ?_⟩, ?_, by omega, ?_⟩
  · rw [gt_set_ne (by omega)]; exact h.low.bit.1 j hj
  · rw [gt_set hi]
    rw [Int.add_emod_right]; exact mod_half h.low.bit.2
  · have e1 := h.eq
    have e2 := shl_val 1 i
    rw [val_setC hi]
    have e3 : gt q (i / 32) + 2 ^ (i % 32) - gt q (i / 32) = 2 ^ (i % 32) := by omega
    rw [e3]
    simp only [Int.one_mul] at e2
    rw [e2]; grind
  · have := h.lt
    rw [Int.pow_succ] at this
    have e : D * (2 ^ i * 2) = D * 2 ^ i + D * 2 ^ i := by grind
    omega
theorem DvS.start {a d n : Nat} (hd : d ≠ 0) (hn : bitLen a = bitLen d + n) : DvS a d (List.replicate (n / 32 + 1) 0) a (n + 1) := by
  have hg : ∀ m j, gt (List.replicate m (0 : Int)) j = 0 := fun m j => by
    unfold gt; rw [List.getElem?_replicate]; split <;> rfl
  refine ⟨Dig.replicate _ (by omega) (by omega), ⟨fun j _ => hg _ _, by rw [hg]; simp⟩, by rw [val_replicate]; simp, by omega, ?_⟩
  have h1 : a < 2 ^ (bitLen d + n) := bitLen_le.1 (by omega)
  have h2 : 2 ^ (bitLen d - 1) ≤ d := by
    rcases Nat.lt_or_ge d (2 ^ (bitLen d - 1)) with h | h
    · have h3 := bitLen_le.2 h
      have : bitLen d ≠ 0 := fun h4 => by
        have := bitLen_le.1 (show bitLen d ≤ 0 by omega)
        simp at this; omega
      omega
    · exact h
  have h5 : bitLen d ≠ 0 := fun h4 => by
    have := bitLen_le.1 (show bitLen d ≤ 0 by omega)
    simp at this; omega
  have h3 : 2 ^ (bitLen d - 1) * 2 ^ (n + 1) ≤ d * 2 ^ (n + 1) := Nat.mul_le_mul_right _ h2
  rw [← Nat.pow_add] at h3
  have e : bitLen d - 1 + (n + 1) = bitLen d + n := by omega
  rw [e] at h3
  have h4 : a < d * 2 ^ (n + 1) := by omega
  have h6 : (a : Int) < ((d * 2 ^ (n + 1) : Nat) : Int) := by omega
  rw [Int.natCast_mul, pow2_cast] at h6
  exact h6
theorem DvS.done {a d : Nat} {q : List Int} {R : Int} (h : DvS a d q R 0) : val 4294967296 q = ((a / d : Nat) : Int) ∧ R = ((a % d : Nat) : Int) := by
  have h1 := h.eq; have h2 := h.nn; have h3 := h.lt
  simp only [Int.pow_zero, Int.mul_one] at h3
  have h4 := val_nonneg h.dig
  obtain ⟨Q, hQ⟩ := Int.eq_ofNat_of_zero_le h4
  obtain ⟨r, rfl⟩ := Int.eq_ofNat_of_zero_le h2
  rw [hQ] at h1 ⊢
  have e : a = d * Q + r := by
    have : (a : Int) = ((d * Q + r : Nat) : Int) := by rw [h1]; push_cast; grind
    omega
  have hr : r < d := by omega
  refine ⟨?_, ?_⟩
  · congr 1; rw [e]
    rw [Nat.mul_add_div (by omega), Nat.div_eq_of_lt hr]; rfl
  · congr 1; rw [e, Nat.mul_add_mod, Nat.mod_eq_of_lt hr]
theorem bitLen_ne {d : Nat} (hd : d ≠ 0) : 0 < bitLen d := by
  rcases Nat.eq_zero_or_pos (bitLen d) with h | h
  · have := bitLen_le.1 (show bitLen d ≤ 0 by omega)
    simp at this; omega
  · exact h
theorem bitLen_lt {a d : Nat} (h : bitLen a < bitLen d) : a < d := by
  rcases Nat.lt_or_ge a d with h2 | h2
  · exact h2
  · have h3 : a < 2 ^ bitLen a := bitLen_le.1 (Nat.le_refl _)
    have := bitLen_le.2 (show d < 2 ^ bitLen a by omega)
    omega
theorem dg_len_mono {a b : Int} (h : a.natAbs ≤ b.natAbs) : (dg a).length ≤ (dg b).length := by
  rcases Nat.lt_or_ge (dg b).length (dg a).length with h1 | h1
  · have := can_len_lt (B := 4294967296) (by omega) (dg_dig b) (dg_dig a) (dg_can a) h1
    rw [dg_val, dg_val] at this; omega
  · exact h1
end Go.Proofs.Ytgeecahbahgjbaa

/- Division of 128 bits by 64, in halves. -/
namespace Go.Proofs.Ytgeecahbahgjbaa
open Go

structure DvH (y1 y0 u un q r : Int) : Prop where
  e : u = q * y1 + r
  r0 : 0 ≤ r
  q0 : 0 ≤ q
  qm : q ≤ 4294967297
  lt : u * 4294967296 + un < (q + 1) * (y1 * 4294967296 + y0)
theorem DvH.start {y1 y0 u un : Int} (hy1 : 2147483648 ≤ y1) (hy0 : 0 ≤ y0) (hy : y0 < 4294967296) (hu0 : 0 ≤ u) (hu : u < y1 * 4294967296 + y0) (hun : un < 4294967296) :
    DvH y1 y0 u un (u / y1) (u - u / y1 * y1) := by
  have h1 := Int.mul_ediv_add_emod u y1
  have h2 := Int.emod_nonneg u (show y1 ≠ 0 by omega)
  have h3 := Int.emod_lt_of_pos u (show 0 < y1 by omega)
  have h4 : 0 ≤ u / y1 := Int.ediv_nonneg hu0 (by omega)
  generalize u / y1 = q at *
  generalize u % y1 = r at *
  have e : y1 * q = q * y1 := Int.mul_comm _ _
  refine ⟨by omega, by omega, h4, ?_, ?_⟩
  · rcases Int.lt_or_le q 4294967298 with h | h
    · omega
    · exfalso
      have := Int.mul_le_mul_of_nonneg_right h (show 0 ≤ y1 by omega)
      omega
  · have e2 : (q + 1) * (y1 * 4294967296 + y0) = q * y1 * 4294967296 + q * y0 + y1 * 4294967296 + y0 := by grind
    have e3 : 0 ≤ q * y0 := Int.mul_nonneg h4 hy0
    rw [e2]; omega
theorem DvH.pos {y1 y0 u un q r : Int} (h : DvH y1 y0 u un q r) (hun : 0 ≤ un) (hc : 4294967296 ≤ q ∨ 4294967296 * r + un < q * y0) : 1 ≤ q := by
  rcases hc with hc | hc
  · omega
  · have := h.r0; have := h.q0
    rcases Int.lt_or_le q 1 with h1 | h1
    · have : q = 0 := by omega
      subst this; omega
    · exact h1
theorem DvH.step {y1 y0 u un q r : Int} (h : DvH y1 y0 u un q r) (hy1 : 2147483648 ≤ y1) (hy0 : 0 ≤ y0) (hun : 0 ≤ un) (hun2 : un < 4294967296) (hu : u < y1 * 4294967296 + y0) (hc : 4294967296 ≤ q ∨ 4294967296 * r + un < q * y0) :
    DvH y1 y0 u un (q - 1) (r + y1) := by
  have hp := h.pos hun hc
  have h1 := h.e; have h2 := h.r0; have h3 := h.qm
  refine ⟨by grind, by omega, by omega, by omega, ?_⟩
  have e : (q - 1 + 1) * (y1 * 4294967296 + y0) = q * y1 * 4294967296 + q * y0 := by grind
  rw [e]
  rcases hc with hc | hc
  · have := Int.mul_le_mul_of_nonneg_right hc (show 0 ≤ y1 * 4294967296 + y0 by omega)
    have e2 : q * (y1 * 4294967296 + y0) = q * y1 * 4294967296 + q * y0 := by grind
    omega
  · omega
theorem DvH.out {y1 y0 u un q r : Int} (h : DvH y1 y0 u un q r) (hy1 : 2147483648 ≤ y1) (hy0 : 0 ≤ y0) (hy : y0 < 4294967296) (hun : 0 ≤ un) (hun2 : un < 4294967296) (hu : u < y1 * 4294967296 + y0)
    (hc : (q < 4294967296 ∧ q * y0 ≤ 4294967296 * r + un) ∨ (4294967296 ≤ r ∧ q ≤ 4294967296)) :
    0 ≤ u * 4294967296 + un - q * (y1 * 4294967296 + y0) ∧ u * 4294967296 + un - q * (y1 * 4294967296 + y0) < y1 * 4294967296 + y0 ∧ q < 4294967296 := by
  have h1 := h.e; have h2 := h.r0; have h3 := h.lt
  have e : q * (y1 * 4294967296 + y0) = q * y1 * 4294967296 + q * y0 := by grind
  have e2 : (q + 1) * (y1 * 4294967296 + y0) = q * (y1 * 4294967296 + y0) + (y1 * 4294967296 + y0) := by grind
  rw [e2] at h3
  have hle : q * (y1 * 4294967296 + y0) ≤ u * 4294967296 + un := by
    rw [e]
    rcases hc with ⟨_, hc⟩ | ⟨hc, hc2⟩
    · omega
    · have := Int.mul_le_mul hc2 (show y0 ≤ 4294967295 by omega) hy0 (by omega)
      omega
  refine ⟨by omega, by omega, ?_⟩
  rcases Int.lt_or_le q 4294967296 with h4 | h4
  · exact h4
  · have := Int.mul_le_mul_of_nonneg_right h4 (show 0 ≤ y1 * 4294967296 + y0 by omega)
    omega
theorem div_of {N y Q R : Int} (h : N = Q * y + R) (h0 : 0 ≤ R) (h1 : R < y) : N / y = Q ∧ N % y = R := by
  have hy : y ≠ 0 := by omega
  subst h
  refine ⟨?_, ?_⟩
  · rw [Int.add_comm, Int.add_mul_ediv_right _ _ hy, Int.ediv_eq_zero_of_lt h0 h1]; omega
  · rw [Int.add_comm, Int.add_mul_emod_self_right]; exact Int.emod_eq_of_lt h0 h1
theorem dv_fin {N y p u un1 un0 q1 q0 R1 R0 : Int} (hp : 0 < p) (h1 : u * 4294967296 + un1 - q1 * (y * p) = R1) (h2 : R1 * 4294967296 + un0 - q0 * (y * p) = R0)
    (hN : N * p = (u * 4294967296 + un1) * 4294967296 + un0) (h0 : 0 ≤ R0) (hlt : R0 < y * p) : N / y = q1 * 4294967296 + q0 ∧ N % y = R0 / p := by
  have e : R0 = p * (N - (q1 * 4294967296 + q0) * y) := by grind
  have e2 : R0 / p = N - (q1 * 4294967296 + q0) * y := by rw [e]; exact Int.mul_ediv_cancel_left _ (by omega)
  rw [e2]
  generalize hR : N - (q1 * 4294967296 + q0) * y = R at *
  refine div_of (by grind) ?_ ?_
  · rcases Int.lt_or_le R 0 with h | h
    · exfalso
      have := Int.mul_neg_of_pos_of_neg hp h
      omega
    · exact h
  · rcases Int.lt_or_le R y with h | h
    · exact h
    · exfalso
      have := Int.mul_le_mul_of_nonneg_left h (show 0 ≤ p by omega)
      rw [Int.mul_comm p y] at this
      omega
theorem bitLen_top2 {y : Nat} (hy : y ≠ 0) : 2 ^ (bitLen y - 1) ≤ y ∧ y < 2 ^ bitLen y := by
  refine ⟨?_, bitLen_le.1 (Nat.le_refl _)⟩
  rcases Nat.lt_or_ge y (2 ^ (bitLen y - 1)) with h | h
  · have h3 := bitLen_le.2 h
    have := bitLen_ne hy
    omega
  · exact h
theorem or_join' {c d : Int} {k : Nat} (hc0 : 0 ≤ c) (hc : c < 2 ^ k) (hd : 0 ≤ d) (ht : d * 2 ^ k < 18446744073709551616) (hc2 : c < 18446744073709551616) : bits .or .u64 (d * 2 ^ k) c = d * 2 ^ k + c := by
  have hp := pow2_pos k
  have h0 : 0 ≤ d * 2 ^ k := Int.mul_nonneg hd (by omega)
  rw [u64_or _ _ h0 ht hc0 hc2, Nat.or_comm, ← u64_or _ _ hc0 hc2 h0 ht, or_join hc0 hc hd ht hc2]; omega
theorem dv_norm {hi lo : Int} {y : Nat} (h0 : 0 ≤ hi) (h1 : hi < y) (hl0 : 0 ≤ lo) (hl : lo < 18446744073709551616) (hy : y < 18446744073709551616) :
    ∃ (S : Nat) (p Y U X : Int), bitLen y + S = 64 ∧ S ≤ 63 ∧ p = 2 ^ S ∧ 0 < p ∧ (y : Int) * 2 ^ S = Y ∧ Y = y * p ∧ 9223372036854775808 ≤ Y ∧ Y < 18446744073709551616 ∧ 0 ≤ hi * 2 ^ S ∧ hi * 2 ^ S < 18446744073709551616 ∧
      bits .or .u64 (hi * 2 ^ S) (lo / 2 ^ (64 - S)) = U ∧ 0 ≤ U ∧ U < Y ∧ lo * 2 ^ S % 18446744073709551616 = X ∧ (hi * 18446744073709551616 + lo) * p = U * 18446744073709551616 + X := by
  have hy0 : y ≠ 0 := by omega
  have hb := bitLen_ne hy0
  have hb2 : bitLen y ≤ 64 := bitLen_le.2 (by omega)
  obtain ⟨t1, t2⟩ := bitLen_top2 hy0
  generalize hS : 64 - bitLen y = S
  have e1 : bitLen y + S = 64 := by omega
  have hpn := Nat.two_pow_pos S
  have y1 : 2 ^ (bitLen y - 1) * 2 ^ S ≤ y * 2 ^ S := Nat.mul_le_mul_right _ t1
  have y2 : y * 2 ^ S < 2 ^ bitLen y * 2 ^ S := Nat.mul_lt_mul_of_pos_right t2 hpn
  rw [← Nat.pow_add, show bitLen y - 1 + S = 63 by omega] at y1
  rw [← Nat.pow_add, e1] at y2
  have ey : ((y * 2 ^ S : Nat) : Int) = (y : Int) * 2 ^ S := by rw [Int.natCast_mul, pow2_cast]
  have hp := pow2_pos S
  have hT := pow2_pos (64 - S)
  have hpT : (2 : Int) ^ S * 2 ^ (64 - S) = 18446744073709551616 := by rw [← Int.pow_add, show S + (64 - S) = 64 by omega]; rfl
  have hY1 : 9223372036854775808 ≤ (y : Int) * 2 ^ S := by rw [← ey]; omega
  have hY2 : (y : Int) * 2 ^ S < 18446744073709551616 := by rw [← ey]; omega
  have hhi : 0 ≤ hi * 2 ^ S := Int.mul_nonneg h0 (by omega)
  have hhi2 : (hi + 1) * 2 ^ S ≤ y * 2 ^ S := Int.mul_le_mul_of_nonneg_right (by omega) (by omega)
  have d1 := Int.mul_ediv_add_emod lo (2 ^ (64 - S))
  have d2 := Int.emod_nonneg lo (show (2 : Int) ^ (64 - S) ≠ 0 by omega)
  have d3 := Int.emod_lt_of_pos lo hT
  have d4 : 0 ≤ lo / 2 ^ (64 - S) := Int.ediv_nonneg hl0 (by omega)
  have d5 : lo / 2 ^ (64 - S) < 2 ^ S := Int.ediv_lt_of_lt_mul hT (by rw [hpT]; exact hl)
  have ee : (hi + 1) * 2 ^ S = hi * 2 ^ S + 2 ^ S := by grind
  have hor := or_join' (k := S) d4 d5 h0 (by omega) (by omega)
  refine ⟨S, 2 ^ S, _, _, _, e1, by omega, rfl, hp, rfl, rfl, hY1, hY2, hhi, by omega, hor, by omega, by omega, rfl, ?_⟩
  generalize lo / 2 ^ (64 - S) = a at *
  generalize lo % 2 ^ (64 - S) = b at *
  generalize (2 : Int) ^ (64 - S) = T at *
  generalize (2 : Int) ^ S = p at *
  have f1 : lo * p = a * 18446744073709551616 + b * p := by rw [← hpT, ← d1]; grind
  have f2 : b * p < 18446744073709551616 := by
    have := Int.mul_lt_mul_of_pos_right d3 hp
    rw [Int.mul_comm T p, hpT] at this; exact this
  have f3 : 0 ≤ b * p := Int.mul_nonneg d2 (by omega)
  have f4 : lo * p % 18446744073709551616 = b * p := by rw [f1]; omega
  rw [f4, Int.add_mul, f1]; grind
end Go.Proofs.Ytgeecahbahgjbaa

/- Division of words, a word of the quotient after the other. -/
namespace Go.Proofs.Ytgeecahbahgjbaa
open Go

theorem val_gt_drop (l : List Int) (i : Nat) : val 18446744073709551616 (l.drop i) = gt l i + 18446744073709551616 * val 18446744073709551616 (l.drop (i + 1)) := by
  by_cases h : i < l.length
  · rw [List.drop_eq_getElem_cons h]
    have e : gt l i = l[i] := by simp [gt, h]
    rw [e]; simp only [val]; rfl
  · have e : gt l i = 0 := by unfold gt; rw [List.getElem?_eq_none (by omega)]; rfl
    rw [List.drop_of_length_le (by omega), List.drop_of_length_le (by omega), e]; simp [val]
theorem val_split (l : List Int) (i : Nat) : val 18446744073709551616 l = val 18446744073709551616 (l.take i) + (18446744073709551616 : Int) ^ i * val 18446744073709551616 (l.drop i) := by
  by_cases h : i ≤ l.length
  · have := val_append (B := 18446744073709551616) (l.take i) (l.drop i)
    rw [List.take_append_drop, List.length_take, Nat.min_eq_left h] at this
    exact this
  · rw [List.take_of_length_le (by omega), List.drop_of_length_le (by omega)]; simp [val]
theorem val_drop_split (l : List Int) (j i : Nat) : val 18446744073709551616 (l.drop j) = val 18446744073709551616 ((l.drop j).take i) + (18446744073709551616 : Int) ^ i * val 18446744073709551616 (l.drop (j + i)) := by
  have := val_split (l.drop j) i
  rw [List.drop_drop] at this; exact this
theorem powB_pos (i : Nat) : (0 : Int) < 18446744073709551616 ^ i := Int.pow_pos (by omega)
theorem val_ltB {l : List Int} (h : Dig 18446744073709551616 l) {n : Nat} (hn : l.length ≤ n) : val 18446744073709551616 l < (18446744073709551616 : Int) ^ n := by
  have h1 := val_lt64 h
  have h2 : (18446744073709551616 : Nat) ^ l.length ≤ 18446744073709551616 ^ n := Nat.pow_le_pow_right (by omega) hn
  have h3 : ∀ k, (18446744073709551616 : Int) ^ k = ((18446744073709551616 ^ k : Nat) : Int) := fun k => by simp
  rw [h3] at h1 ⊢; omega
/-- A row of words of which a window has been changed. -/
structure Win (u0 u : List Int) (j n : Nat) (X : Int) : Prop where
  dig : Dig 18446744073709551616 u
  len : u.length = u0.length
  tk : u.take j = u0.take j
  dr : u.drop (j + n + 1) = u0.drop (j + n + 1)
  eq : val 18446744073709551616 u = val 18446744073709551616 u0 + (18446744073709551616 : Int) ^ j * X
theorem Win.refl {u : List Int} (h : Dig 18446744073709551616 u) (j n : Nat) : Win u u j n 0 := ⟨h, rfl, rfl, rfl, by simp⟩
theorem Win.set {u0 u : List Int} {j n i : Nat} {X X' v : Int} (h : Win u0 u j n X) (hi : i ≤ n) (hk : j + i < u.length) (h0 : 0 ≤ v) (h1 : v < 18446744073709551616)
    (hX : X' = X + (18446744073709551616 : Int) ^ i * (v - gt u (j + i))) : Win u0 (u.set (j + i) v) j n X' := by
  refine ⟨h.dig.set _ h0 h1, by simp [h.len], ?_, ?_, ?_⟩
  · rw [List.take_set_of_le (by omega)]; exact h.tk
  · rw [List.drop_set_of_lt (by omega)]; exact h.dr
  · rw [val_setB hk, h.eq, hX, Int.pow_add]; grind
theorem Win.cast {u0 u : List Int} {j n : Nat} {X X' : Int} (h : Win u0 u j n X) (e : X' = X) : Win u0 u j n X' := e ▸ h
theorem Win.val {u0 u : List Int} {j n : Nat} {X : Int} (h : Win u0 u j n X) : val 18446744073709551616 (u.drop j) = val 18446744073709551616 (u0.drop j) + X := by
  have h1 := h.eq
  rw [val_split u j, val_split u0 j, h.tk] at h1
  have hp := powB_pos j
  have h2 : (18446744073709551616 : Int) ^ j * Go.Proofs.Ytgeecahbahgjbaa.val 18446744073709551616 (u.drop j) = (18446744073709551616 : Int) ^ j * (Go.Proofs.Ytgeecahbahgjbaa.val 18446744073709551616 (u0.drop j) + X) := by grind
  exact Int.eq_of_mul_eq_mul_left (by omega) h2
theorem Win.lt {u0 u : List Int} {j n : Nat} {X : Int} (h : Win u0 u j n X) (hz : Go.Proofs.Ytgeecahbahgjbaa.val 18446744073709551616 (u0.drop (j + n + 1)) = 0) :
    0 ≤ Go.Proofs.Ytgeecahbahgjbaa.val 18446744073709551616 (u0.drop j) + X ∧ Go.Proofs.Ytgeecahbahgjbaa.val 18446744073709551616 (u0.drop j) + X < (18446744073709551616 : Int) ^ (n + 1) := by
  rw [← h.val]
  refine ⟨val_nonneg (h.dig.drop j), ?_⟩
  have h1 := val_drop_split u j (n + 1)
  have e : j + (n + 1) = j + n + 1 := by omega
  rw [e, h.dr, hz] at h1
  have h2 := val_ltB ((h.dig.drop j).take (n + 1)) (n := n + 1) (by simp; omega)
  rw [Int.mul_zero] at h1; omega
/-- Ahead of the step at j. -/
structure Kn (A V : Int) (u out : List Int) (j : Nat) : Prop where
  dig : Dig 18446744073709551616 u
  eq : A = val 18446744073709551616 u + V * val 18446744073709551616 out
  hi : val 18446744073709551616 (u.drop j) < V
  dout : Dig 18446744073709551616 out
  oz : ∀ i, i < j → gt out i = 0
theorem Kn.top {A V : Int} {u out : List Int} {j n : Nat} (h : Kn A V u out (j + 1)) (hV : V ≤ (18446744073709551616 : Int) ^ n) : val 18446744073709551616 (u.drop (j + n + 1)) = 0 := by
  have h1 := val_drop_split u (j + 1) n
  have h2 := h.hi
  have h3 := val_nonneg ((h.dig.drop (j + 1)).take n)
  have h4 := val_nonneg (h.dig.drop (j + 1 + n))
  have e : j + 1 + n = j + n + 1 := by omega
  rw [e] at h1 h4
  rcases Int.lt_or_le 0 (val 18446744073709551616 (u.drop (j + n + 1))) with h5 | h5
  · exfalso
    have := Int.mul_le_mul_of_nonneg_left (show 1 ≤ val 18446744073709551616 (u.drop (j + n + 1)) by omega) (show 0 ≤ (18446744073709551616 : Int) ^ n from Int.le_of_lt (powB_pos n))
    rw [Int.mul_one] at this; omega
  · omega
theorem Kn.wide {A V : Int} {u out : List Int} {j : Nat} (h : Kn A V u out (j + 1)) : val 18446744073709551616 (u.drop j) < 18446744073709551616 * V := by
  rw [val_gt_drop]
  have := h.dig.gt (by omega) j
  have := h.hi
  omega
theorem Kn.step {A V q : Int} {u u' out : List Int} {j n : Nat} (h : Kn A V u out (j + 1)) (w : Win u u' j n (-(q * V))) (hq0 : 0 ≤ q) (hq : q < 18446744073709551616) (hlt : val 18446744073709551616 (u.drop j) < (q + 1) * V) (hj : j < out.length) :
    Kn A V u' (out.set j q) j := by
  refine ⟨w.dig, ?_, ?_, h.dout.set _ hq0 hq, fun i hi => ?_⟩
  · have h1 := h.eq; have h2 := w.eq
    rw [val_setB hj, h.oz j (by omega), h2]; grind
  · rw [w.val]
    have : (q + 1) * V = q * V + V := by grind
    omega
  · rw [gt_set_ne (by omega)]; exact h.oz i (by omega)
/-- A guess of a word of the quotient. -/
structure Qh (W V u1 u2 v1 q r : Int) : Prop where
  e : u1 * 18446744073709551616 + u2 = q * v1 + r
  r0 : 0 ≤ r
  rB : r < 18446744073709551616
  q0 : 0 ≤ q
  qB : q < 18446744073709551616
  lt : W < (q + 1) * V
theorem win_lt {u : List Int} (d : Dig 18446744073709551616 u) {j m : Nat} (hz : val 18446744073709551616 (u.drop (j + (m + 2) + 1)) = 0) :
    val 18446744073709551616 (u.drop j) < ((gt u (j + m + 2) * 18446744073709551616 + gt u (j + m + 1)) * 18446744073709551616 + gt u (j + m) + 1) * (18446744073709551616 : Int) ^ m := by
  have h1 := val_drop_split u j m
  have h2 := val_gt_drop u (j + m)
  have h3 := val_gt_drop u (j + m + 1)
  have h4 := val_gt_drop u (j + m + 1 + 1)
  have e : j + m + 1 + 1 + 1 = j + (m + 2) + 1 := by omega
  have e2 : j + m + 1 + 1 = j + m + 2 := by omega
  rw [e, hz, e2] at h4
  rw [e2] at h3
  have h5 := val_ltB ((d.drop j).take m) (n := m) (by simp; omega)
  generalize val 18446744073709551616 (u.drop j) = W at *
  generalize val 18446744073709551616 (List.take m (u.drop j)) = T at *
  generalize val 18446744073709551616 (u.drop (j + m)) = X1 at *
  generalize val 18446744073709551616 (u.drop (j + m + 1)) = X2 at *
  generalize val 18446744073709551616 (u.drop (j + m + 2)) = X3 at *
  generalize (18446744073709551616 : Int) ^ m = P at *
  have e3 : X1 = (gt u (j + m + 2) * 18446744073709551616 + gt u (j + m + 1)) * 18446744073709551616 + gt u (j + m) := by omega
  rw [← e3, h1]; grind
theorem top_ge {v : List Int} (d : Dig 18446744073709551616 v) {m : Nat} : (gt v (m + 1) * 18446744073709551616 + gt v m) * (18446744073709551616 : Int) ^ m ≤ val 18446744073709551616 v := by
  have h1 := val_split v m
  have h2 := val_gt_drop v m
  have h3 := val_gt_drop v (m + 1)
  have h4 := val_nonneg (d.take m)
  have h5 := val_nonneg (d.drop (m + 1 + 1))
  have hp := powB_pos m
  generalize val 18446744073709551616 v = V at *
  generalize val 18446744073709551616 (v.take m) = T at *
  generalize val 18446744073709551616 (v.drop m) = X1 at *
  generalize val 18446744073709551616 (v.drop (m + 1)) = X2 at *
  generalize val 18446744073709551616 (v.drop (m + 1 + 1)) = X3 at *
  generalize (18446744073709551616 : Int) ^ m = P at *
  have e : gt v (m + 1) * 18446744073709551616 + gt v m ≤ X1 := by omega
  have := Int.mul_le_mul_of_nonneg_right e (show 0 ≤ P by omega)
  have e2 : X1 * P = P * X1 := Int.mul_comm _ _
  omega
theorem Qh.start {W V u1 u2 u3 v1 v2 P : Int} (hP : 0 < P) (hW : W < ((u1 * 18446744073709551616 + u2) * 18446744073709551616 + u3 + 1) * P) (hV : (v1 * 18446744073709551616 + v2) * P ≤ V)
    (h1 : 0 ≤ u1) (h1v : u1 < v1) (hv1 : v1 < 18446744073709551616) (h2 : 0 ≤ u2) (h2B : u2 < 18446744073709551616) (h3 : u3 < 18446744073709551616) (hv2 : 0 ≤ v2) :
    Qh W V u1 u2 v1 ((u1 * 18446744073709551616 + u2) / v1) ((u1 * 18446744073709551616 + u2) % v1) := by
  have e1 := Int.mul_ediv_add_emod (u1 * 18446744073709551616 + u2) v1
  have e2 := Int.emod_nonneg (u1 * 18446744073709551616 + u2) (show v1 ≠ 0 by omega)
  have e3 := Int.emod_lt_of_pos (u1 * 18446744073709551616 + u2) (show 0 < v1 by omega)
  have e4 : 0 ≤ (u1 * 18446744073709551616 + u2) / v1 := Int.ediv_nonneg (by omega) (by omega)
  have e5 : (u1 * 18446744073709551616 + u2) / v1 < 18446744073709551616 := Int.ediv_lt_of_lt_mul (by omega) (by omega)
  generalize (u1 * 18446744073709551616 + u2) / v1 = q at *
  generalize (u1 * 18446744073709551616 + u2) % v1 = r at *
  have ec : v1 * q = q * v1 := Int.mul_comm _ _
  refine ⟨by omega, e2, by omega, e4, e5, ?_⟩
  have f1 : (u1 * 18446744073709551616 + u2) * 18446744073709551616 + u3 + 1 ≤ (q + 1) * (v1 * 18446744073709551616 + v2) := by
    have g1 : (q + 1) * (v1 * 18446744073709551616 + v2) = q * v1 * 18446744073709551616 + v1 * 18446744073709551616 + q * v2 + v2 := by grind
    have g2 : 0 ≤ q * v2 := Int.mul_nonneg e4 hv2
    rw [g1]; omega
  have f2 := Int.mul_le_mul_of_nonneg_right f1 (show 0 ≤ P by omega)
  have f3 := Int.mul_le_mul_of_nonneg_left hV (show 0 ≤ q + 1 by omega)
  rw [← Int.mul_assoc] at f3
  omega
theorem Qh.step {W V u1 u2 u3 v1 v2 P q r : Int} (h : Qh W V u1 u2 v1 q r) (hP : 0 < P) (hW : W < ((u1 * 18446744073709551616 + u2) * 18446744073709551616 + u3 + 1) * P) (hV : (v1 * 18446744073709551616 + v2) * P ≤ V)
    (h3 : 0 ≤ u3) (hc : r * 18446744073709551616 + u3 < q * v2) : 1 ≤ q ∧ W < (q - 1 + 1) * V ∧ u1 * 18446744073709551616 + u2 = (q - 1) * v1 + (r + v1) := by
  have e1 := h.e; have e2 := h.r0; have e3 := h.q0
  refine ⟨?_, ?_, by grind⟩
  · rcases Int.lt_or_le q 1 with h1 | h1
    · have : q = 0 := by omega
      subst this; omega
    · exact h1
  · have f1 : (u1 * 18446744073709551616 + u2) * 18446744073709551616 + u3 + 1 ≤ q * (v1 * 18446744073709551616 + v2) := by
      have g1 : q * (v1 * 18446744073709551616 + v2) = q * v1 * 18446744073709551616 + q * v2 := by grind
      rw [g1]; omega
    have f2 := Int.mul_le_mul_of_nonneg_right f1 (show 0 ≤ P by omega)
    have f3 := Int.mul_le_mul_of_nonneg_left hV e3
    rw [← Int.mul_assoc] at f3
    have e : q - 1 + 1 = q := by omega
    rw [e]; omega
end Go.Proofs.Ytgeecahbahgjbaa

/- A row of words moved up by bits; moved down again. -/
namespace Go.Proofs.Ytgeecahbahgjbaa
open Go Go.RowKit

def shR (d : List Int) (p : Int) : Nat → List Int × Int
  | 0 => ([], 0)
  | i + 1 => ((shR d p i).1 ++ [((shR d p i).2 + gt d i * p) % 18446744073709551616], ((shR d p i).2 + gt d i * p) / 18446744073709551616)
theorem shR_spec {d : List Int} (dd : Dig 18446744073709551616 d) {p : Int} (hp : 1 ≤ p) : ∀ i, (shR d p i).1.length = i ∧ Dig 18446744073709551616 (shR d p i).1 ∧ 0 ≤ (shR d p i).2 ∧ (shR d p i).2 < p ∧
    val 18446744073709551616 (shR d p i).1 + (shR d p i).2 * (18446744073709551616 : Int) ^ i = val 18446744073709551616 (d.take i) * p
  | 0 => by simp [shR, val, Dig.nil]; omega
  | i + 1 => by
    obtain ⟨h1, h2, h3, h4, h5⟩ := shR_spec dd hp i
    have gd := dd.gt (by omega) i
    simp only [shR]
    generalize (shR d p i).2 = c at *
    generalize (shR d p i).1 = o at *
    have hm : gt d i * p ≤ 18446744073709551615 * p := Int.mul_le_mul_of_nonneg_right (by omega) (by omega)
    have hm0 : 0 ≤ gt d i * p := Int.mul_nonneg gd.1 (by omega)
    refine ⟨by simp [h1], h2.append (Dig.cons (by omega) (by omega) (Dig.nil _)), by omega, by omega, ?_⟩
    rw [val_append, val_take64, h1, Int.pow_succ]
    simp only [val]
    have := Int.emod_add_mul_ediv (c + gt d i * p) 18446744073709551616
    grind
/-- The row while it is made. -/
def shS (d : List Int) (p : Int) (i : Nat) : List Int := (shR d p i).1 ++ (shR d p i).2 :: List.replicate (d.length - i) 0
def shW (d : List Int) (p : Int) : List Int := shS d p d.length
theorem shS_len {d : List Int} (dd : Dig 18446744073709551616 d) {p : Int} (hp : 1 ≤ p) {i : Nat} (hi : i ≤ d.length) : (shS d p i).length = d.length + 1 := by
  have := (shR_spec dd hp i).1
  simp [shS, this]; omega
theorem shS_gt {d : List Int} (dd : Dig 18446744073709551616 d) {p : Int} (hp : 1 ≤ p) (i : Nat) : gt (shS d p i) i = (shR d p i).2 := by
  have := (shR_spec dd hp i).1
  unfold gt shS
  rw [List.getElem?_append_right (by omega), this, Nat.sub_self]; rfl
theorem shS_step {d : List Int} (dd : Dig 18446744073709551616 d) {p : Int} (hp : 1 ≤ p) {i : Nat} (hi : i < d.length) :
    ((shS d p i).set i (((shR d p i).2 + gt d i * p) % 18446744073709551616)).set (i + 1) (((shR d p i).2 + gt d i * p) / 18446744073709551616) = shS d p (i + 1) := by
  have h1 := (shR_spec dd hp i).1
  unfold shS
  simp only [shR]
  generalize (shR d p i).2 = c at *
  generalize (shR d p i).1 = o at *
  have e : d.length - i = (d.length - (i + 1)) + 1 := by omega
  rw [e, List.replicate_succ, List.set_append_right _ _ (by omega), h1, Nat.sub_self, List.set_cons_zero, List.set_append_right _ _ (by omega), h1]
  rw [show i + 1 - i = 1 by omega, List.set_cons_succ, List.set_cons_zero]
  simp
theorem shS_step0 {d : List Int} (dd : Dig 18446744073709551616 d) {p : Int} (hp : 1 ≤ p) {i : Nat} (hi : i < d.length) (hc : ((shR d p i).2 + gt d i * p) / 18446744073709551616 = 0) :
    (shS d p i).set i (((shR d p i).2 + gt d i * p) % 18446744073709551616) = shS d p (i + 1) := by
  have h1 := (shR_spec dd hp i).1
  unfold shS
  simp only [shR, hc]
  generalize (shR d p i).2 = c at *
  generalize (shR d p i).1 = o at *
  have e : d.length - i = (d.length - (i + 1)) + 1 := by omega
  rw [e, List.replicate_succ, List.set_append_right _ _ (by omega), h1, Nat.sub_self, List.set_cons_zero]
  simp
theorem shW_spec {d : List Int} (dd : Dig 18446744073709551616 d) {p : Int} (hp : 1 ≤ p) (hp2 : p ≤ 18446744073709551616) : Dig 18446744073709551616 (shW d p) ∧ (shW d p).length = d.length + 1 ∧ val 18446744073709551616 (shW d p) = val 18446744073709551616 d * p := by
  obtain ⟨h1, h2, h3, h4, h5⟩ := shR_spec dd hp d.length
  rw [val_take_all (Nat.le_refl _)] at h5
  refine ⟨?_, shS_len dd hp (Nat.le_refl _), ?_⟩
  · unfold shW shS
    rw [Nat.sub_self]
    exact h2.append (Dig.cons h3 (by omega) (Dig.nil _))
  · unfold shW shS
    rw [Nat.sub_self, val_append, h1]
    simp only [List.replicate_zero, val]
    rw [← h5]
    have e : ((18446744073709551616 : Nat) : Int) = (18446744073709551616 : Int) := rfl
    rw [e]; grind
theorem sh_step {x c : Int} {s : Nat} (hs : s ≤ 63) (hx0 : 0 ≤ x) (hx : x < 18446744073709551616) (hc0 : 0 ≤ c) (hc : c < 2 ^ s) :
    bits .or .u64 c (x * 2 ^ s % 18446744073709551616) = (c + x * 2 ^ s) % 18446744073709551616 ∧ x / 2 ^ (64 - s) = (c + x * 2 ^ s) / 18446744073709551616 := by
  have hp := pow2_pos s
  have hT := pow2_pos (64 - s)
  have hpT : (2 : Int) ^ s * 2 ^ (64 - s) = 18446744073709551616 := by rw [← Int.pow_add, show s + (64 - s) = 64 by omega]; rfl
  have hps : (2 : Int) ^ s ≤ 9223372036854775808 := by
    have : (2 : Nat) ^ s ≤ 2 ^ 63 := Nat.pow_le_pow_right (by omega) hs
    rw [← pow2_cast]; omega
  have d1 := Int.mul_ediv_add_emod x (2 ^ (64 - s))
  have d2 := Int.emod_nonneg x (show (2 : Int) ^ (64 - s) ≠ 0 by omega)
  have d3 := Int.emod_lt_of_pos x hT
  have d4 : 0 ≤ x / 2 ^ (64 - s) := Int.ediv_nonneg hx0 (by omega)
  generalize x / 2 ^ (64 - s) = a at *
  generalize x % 2 ^ (64 - s) = b at *
  have f2 : (b + 1) * 2 ^ s ≤ 18446744073709551616 := by
    have := Int.mul_le_mul_of_nonneg_right (show b + 1 ≤ 2 ^ (64 - s) by omega) (show (0 : Int) ≤ 2 ^ s by omega)
    rw [Int.mul_comm (2 ^ (64 - s)) (2 ^ s), hpT] at this; exact this
  have f3 : 0 ≤ b * 2 ^ s := Int.mul_nonneg d2 (by omega)
  have f4 : (b + 1) * 2 ^ s = b * 2 ^ s + 2 ^ s := by grind
  have f1 : x * 2 ^ s = a * 18446744073709551616 + b * 2 ^ s := by rw [← hpT, ← d1]; grind
  have f5 : x * 2 ^ s % 18446744073709551616 = b * 2 ^ s := by rw [f1]; omega
  rw [f5, or_join hc0 hc d2 (by omega) (by omega), f1]
  refine ⟨by omega, by omega⟩
/-- The row moved down: what stands above comes in. -/
theorem val_down {l : List Int} (dl : Dig 18446744073709551616 l) {s : Nat} (hs : s ≤ 63) {Q : Int} (hv : val 18446744073709551616 l = Q * 2 ^ s) {o : List Int} (hl : o.length = l.length) (ho : ∀ i, i < l.length → gt o i = gt l i / 2 ^ s + gt l (i + 1) % 2 ^ s * 2 ^ (64 - s)) :
    val 18446744073709551616 o = Q := by
  have hp := pow2_pos s
  have hT := pow2_pos (64 - s)
  have hpT : (2 : Int) ^ s * 2 ^ (64 - s) = 18446744073709551616 := by rw [← Int.pow_add, show s + (64 - s) = 64 by omega]; rfl
  have key : ∀ i, i ≤ l.length → val 18446744073709551616 (o.take i) * 2 ^ s + gt l 0 % 2 ^ s = val 18446744073709551616 (l.take i) + (18446744073709551616 : Int) ^ i * (gt l i % 2 ^ s) := by
    intro i
    induction i with
    | zero => intro _; simp [val]
    | succ i ih =>
      intro hi
      have h1 := ih (by omega)
      rw [val_take64, val_take64, ho i (by omega), Int.pow_succ]
      have d1 := Int.mul_ediv_add_emod (gt l i) (2 ^ s)
      generalize gt l i / 2 ^ s = a at *
      generalize gt l i % 2 ^ s = b at *
      generalize gt l (i + 1) % 2 ^ s = c at *
      generalize (18446744073709551616 : Int) ^ i = P at *
      generalize val 18446744073709551616 (o.take i) = X at *
      generalize val 18446744073709551616 (l.take i) = Y at *
      rw [← hpT, ← d1]
      grind
  have h0 := key l.length (Nat.le_refl _)
  rw [val_take_all (by omega), val_take_all (Nat.le_refl _), gt_ge (Nat.le_refl _), hv] at h0
  rw [Int.zero_emod, Int.mul_zero, Int.add_zero] at h0
  have hg : gt l 0 % 2 ^ s = 0 := by
    have e1 : gt l 0 % 2 ^ s = (Q - val 18446744073709551616 o) * 2 ^ s := by grind
    have h2 := Int.emod_nonneg (gt l 0) (show (2 : Int) ^ s ≠ 0 by omega)
    have h3 := Int.emod_lt_of_pos (gt l 0) hp
    rw [e1] at h2 h3
    have h4 : Q - val 18446744073709551616 o = 0 := by
      rcases Int.lt_or_le (Q - val 18446744073709551616 o) 0 with h | h
      · have := Int.mul_neg_of_neg_of_pos h hp; omega
      · rcases Int.lt_or_le 0 (Q - val 18446744073709551616 o) with h' | h'
        · have := Int.mul_le_mul_of_nonneg_right (show 1 ≤ Q - val 18446744073709551616 o by omega) (show (0 : Int) ≤ 2 ^ s by omega)
          omega
        · omega
    rw [e1, h4]; simp
  have h5 : val 18446744073709551616 o * 2 ^ s = Q * 2 ^ s := by omega
  exact Int.eq_of_mul_eq_mul_right (by omega) h5
theorem wd_pln (k : IntKind) (l : List Int) : ∀ r ∈ wd k l, ∀ x ∈ r, pln x := by
  intro r hr x hx
  simp only [wd, List.mem_map] at hr
  obtain ⟨n, _, rfl⟩ := hr
  simp only [List.mem_singleton] at hx
  subst hx; trivial
end Go.Proofs.Ytgeecahbahgjbaa

/- Division of words: how it begins, its loops, how it ends. -/
namespace Go.Proofs.Ytgeecahbahgjbaa
open Go Go.RowKit

theorem mag_len_mono {a b : Int} (h : a.natAbs ≤ b.natAbs) : (mag a).length ≤ (mag b).length := by
  rcases Nat.lt_or_ge (mag b).length (mag a).length with h1 | h1
  · have := can_len_lt (B := 18446744073709551616) (by omega) (mag_dig b) (mag_dig a) (mag_can a) h1
    rw [mag_val, mag_val] at this; omega
  · exact h1
theorem powB_two (i : Nat) : (18446744073709551616 : Int) ^ i = 2 ^ (64 * i) := by rw [Int.pow_mul]; rfl
theorem mag_top {d m : Nat} (hn : (mag (d : Int)).length = m + 1) : gt (mag (d : Int)) m ≠ 0 := by
  intro h
  have hc := mag_can (d : Int)
  refine hc ?_
  rw [List.getLast?_eq_getElem?, hn, Nat.add_sub_cancel, gt_some (by omega), h]
theorem gt_zeros (k i : Nat) : gt (List.replicate k (0 : Int)) i = 0 := by
  unfold gt; rw [List.getElem?_replicate]; split <;> rfl
theorem dw_init {a d m : Nat} (had : d ≤ a) (hn : (mag (d : Int)).length = m + 2) : ∃ (t k : Nat) (p : Int) (Vl : List Int), gt (mag (d : Int)) (m + 1) = (t : Int) ∧ t < 18446744073709551616 ∧ bitLen t + k = 64 ∧ k ≤ 63 ∧ p = 2 ^ k ∧ 0 < p ∧
    Vl = (shW (mag (d : Int)) p).take (m + 2) ∧ Dig 18446744073709551616 Vl ∧ Vl.length = m + 2 ∧ val 18446744073709551616 Vl = d * p ∧ 0 < gt Vl (m + 1) ∧ d * p ≤ (18446744073709551616 : Int) ^ (m + 2) ∧
    (mag (d : Int)).length ≤ (mag (a : Int)).length ∧
    Kn (a * p) (d * p) (shW (mag (a : Int)) p) (List.replicate ((mag (a : Int)).length - (m + 2) + 1) 0) ((mag (a : Int)).length - (m + 2) + 1) := by
  have dd := mag_dig (d : Int)
  have gd := dd.gt (by omega) (m + 1)
  have ht0 := mag_top (m := m + 1) (by omega : (mag (d : Int)).length = m + 1 + 1)
  obtain ⟨t, ht⟩ := Int.eq_ofNat_of_zero_le gd.1
  have hbl := bitLen_top (d : Int) t (by omega) (by rw [hn]; exact ht)
  rw [hn, Int.natAbs_natCast] at hbl
  have ht1 : t ≠ 0 := by omega
  have hb1 := bitLen_ne ht1
  have hb2 : bitLen t ≤ 64 := bitLen_le.2 (by omega)
  have hlen : (mag (d : Int)).length ≤ (mag (a : Int)).length := mag_len_mono (by simpa using had)
  have hd0 : d ≠ 0 := by intro h; subst h; rw [show ((0 : Nat) : Int) = 0 from rfl, mag_zero] at hn; simp at hn
  obtain ⟨q1, q2⟩ := bitLen_top2 hd0
  generalize hk : 64 - bitLen t = k
  have e1 : bitLen t + k = 64 := by omega
  have hp := pow2_pos k
  have hp2 : (2 : Int) ^ k ≤ 18446744073709551616 := by
    have : (2 : Nat) ^ k ≤ 2 ^ 64 := Nat.pow_le_pow_right (by omega) (by omega)
    rw [← pow2_cast]; omega
  have sd := shW_spec dd (show (1 : Int) ≤ 2 ^ k by omega) hp2
  have sa := shW_spec (mag_dig (a : Int)) (show (1 : Int) ≤ 2 ^ k by omega) hp2
  rw [mag_val, Int.natAbs_natCast] at sd sa
  have u1 : d * 2 ^ k < 2 ^ (64 * (m + 2)) := by
    have := Nat.mul_lt_mul_of_pos_right q2 (Nat.two_pow_pos k)
    rw [← Nat.pow_add] at this
    have e : bitLen d + k = 64 * (m + 2) := by omega
    rw [e] at this; exact this
  have u2 : 2 ^ (64 * (m + 1)) ≤ d * 2 ^ k := by
    have := Nat.mul_le_mul_right (2 ^ k) q1
    rw [← Nat.pow_add] at this
    have : 2 ^ (64 * (m + 1)) ≤ 2 ^ (bitLen d - 1 + k) := Nat.pow_le_pow_right (by omega) (by omega)
    omega
  have ec : ((d * 2 ^ k : Nat) : Int) = (d : Int) * 2 ^ k := by rw [Int.natCast_mul, pow2_cast]
  have v1 : (d : Int) * 2 ^ k < 18446744073709551616 ^ (m + 2) := by rw [powB_two, ← ec, ← pow2_cast]; omega
  have v2 : (18446744073709551616 : Int) ^ (m + 1) ≤ (d : Int) * 2 ^ k := by rw [powB_two, ← ec, ← pow2_cast]; omega
  have hsp := val_split (shW (mag (d : Int)) (2 ^ k)) (m + 2)
  have hdr := val_nonneg (sd.1.drop (m + 2))
  have htk := val_nonneg (sd.1.take (m + 2))
  rw [sd.2.2] at hsp
  have hz : val 18446744073709551616 ((shW (mag (d : Int)) (2 ^ k)).drop (m + 2)) = 0 := by
    rcases Int.lt_or_le 0 (val 18446744073709551616 ((shW (mag (d : Int)) (2 ^ k)).drop (m + 2))) with h | h
    · exfalso
      have := Int.mul_le_mul_of_nonneg_left (show 1 ≤ val 18446744073709551616 ((shW (mag (d : Int)) (2 ^ k)).drop (m + 2)) by omega) (Int.le_of_lt (powB_pos (m + 2)))
      rw [Int.mul_one] at this; omega
    · omega
  rw [hz, Int.mul_zero, Int.add_zero] at hsp
  have hVl : ((shW (mag (d : Int)) (2 ^ k)).take (m + 2)).length = m + 2 := by rw [List.length_take, sd.2.1, hn]; omega
  refine ⟨t, k, 2 ^ k, _, ht, by omega, e1, by omega, rfl, hp, rfl, sd.1.take _, hVl, hsp.symm, ?_, Int.le_of_lt v1, hlen, sa.1, ?_, ?_, Dig.replicate _ (by omega) (by omega), fun i _ => gt_zeros _ _⟩
  · have dV := sd.1.take (m + 2)
    have g := dV.gt (by omega) (m + 1)
    have hs2 := val_take64 ((shW (mag (d : Int)) (2 ^ k)).take (m + 2)) (m + 1)
    rw [val_take_all (by omega), ← hsp] at hs2
    have hlt := val_ltB (dV.take (m + 1)) (n := m + 1) (by simp; omega)
    rcases Int.lt_or_le 0 (gt ((shW (mag (d : Int)) (2 ^ k)).take (m + 2)) (m + 1)) with h | h
    · exact h
    · exfalso
      have : gt ((shW (mag (d : Int)) (2 ^ k)).take (m + 2)) (m + 1) = 0 := by omega
      rw [this, Int.mul_zero] at hs2; omega
  · rw [sa.2.2, val_replicate]; simp
  · have hs3 := val_split (shW (mag (a : Int)) (2 ^ k)) ((mag (a : Int)).length - (m + 2) + 1)
    have hn3 := val_nonneg (sa.1.take ((mag (a : Int)).length - (m + 2) + 1))
    rw [sa.2.2] at hs3
    generalize val 18446744073709551616 ((shW (mag (a : Int)) (2 ^ k)).drop ((mag (a : Int)).length - (m + 2) + 1)) = X at *
    generalize val 18446744073709551616 ((shW (mag (a : Int)) (2 ^ k)).take ((mag (a : Int)).length - (m + 2) + 1)) = T at *
    rcases Int.lt_or_le X ((d : Int) * 2 ^ k) with h | h
    · exact h
    · exfalso
      have hJ := powB_pos ((mag (a : Int)).length - (m + 2) + 1)
      have h1 := Int.mul_le_mul_of_nonneg_left h (Int.le_of_lt hJ)
      have ha := val_lt64 (mag_dig (a : Int))
      rw [mag_val, Int.natAbs_natCast] at ha
      have hdv := val_take64 (mag (d : Int)) (m + 1)
      rw [val_take_all (by omega), mag_val, Int.natAbs_natCast, ht] at hdv
      have hdn := val_nonneg (dd.take (m + 1))
      have hB1 := powB_pos (m + 1)
      have h2 : (18446744073709551616 : Int) ^ (m + 1) ≤ d := by
        have := Int.mul_le_mul_of_nonneg_left (show (1 : Int) ≤ t by omega) (Int.le_of_lt hB1)
        rw [Int.mul_one] at this; omega
      have h3 := Int.mul_le_mul_of_nonneg_left h2 (Int.le_of_lt hJ)
      rw [← Int.pow_add, show (mag (a : Int)).length - (m + 2) + 1 + (m + 1) = (mag (a : Int)).length by omega] at h3
      have h4 : (a : Int) < 18446744073709551616 ^ ((mag (a : Int)).length - (m + 2) + 1) * d := by omega
      have h5 := Int.mul_lt_mul_of_pos_right h4 hp
      rw [Int.mul_assoc] at h5
      omega
theorem dw_fin {a d : Nat} {p : Int} (hp : 0 < p) {u out : List Int} (h : Kn (a * p) (d * p) u out 0) : val 18446744073709551616 out = ((a / d : Nat) : Int) ∧ val 18446744073709551616 u = ((a % d : Nat) : Int) * p := by
  have h1 := h.eq
  have h2 := h.hi
  rw [List.drop_zero] at h2
  have h3 := val_nonneg h.dig
  generalize val 18446744073709551616 out = Q at *
  have e : val 18446744073709551616 u = (a - Q * d) * p := by grind
  rw [e] at h2 h3 ⊢
  have r0 : 0 ≤ (a : Int) - Q * d := by
    rcases Int.lt_or_le ((a : Int) - Q * d) 0 with h | h
    · have := Int.mul_neg_of_neg_of_pos h hp; omega
    · exact h
  have r1 : (a : Int) - Q * d < d := by
    rcases Int.lt_or_le ((a : Int) - Q * d) d with h | h
    · exact h
    · have := Int.mul_le_mul_of_nonneg_right h (Int.le_of_lt hp); omega
  obtain ⟨f1, f2⟩ := div_of (N := (a : Int)) (y := d) (Q := Q) (R := a - Q * d) (by omega) r0 r1
  rw [Int.natCast_ediv, Int.natCast_emod, f1, f2]
  exact ⟨rfl, rfl⟩
/-- A word times the guess taken away. -/
theorem win_sub {u0 u Vl : List Int} {j n i : Nat} {q br c : Int} (w : Win u0 u j n (-(q * val 18446744073709551616 (Vl.take i)) + 18446744073709551616 ^ i * (br + c))) (hi : i ≤ n) (hk : j + i < u.length) (dV : Dig 18446744073709551616 Vl)
    (hq0 : 0 ≤ q) (hq : q < 18446744073709551616) (hb0 : 0 ≤ br) (hb : br ≤ 1) (hc0 : 0 ≤ c) (hc : c < 18446744073709551616) :
    0 ≤ q * gt Vl i ∧ 0 ≤ q * gt Vl i / 18446744073709551616 + (q * gt Vl i % 18446744073709551616 + c) / 18446744073709551616 ∧ q * gt Vl i / 18446744073709551616 + (q * gt Vl i % 18446744073709551616 + c) / 18446744073709551616 < 18446744073709551616 ∧
    Win u0 (u.set (j + i) ((gt u (j + i) - (q * gt Vl i % 18446744073709551616 + c) % 18446744073709551616 - br) % 18446744073709551616)) j n (-(q * val 18446744073709551616 (Vl.take (i + 1))) + 18446744073709551616 ^ (i + 1) * ((if gt u (j + i) < (q * gt Vl i % 18446744073709551616 + c) % 18446744073709551616 + br then 1 else 0) + (q * gt Vl i / 18446744073709551616 + (q * gt Vl i % 18446744073709551616 + c) / 18446744073709551616))) := by
  have gv := dV.gt (by omega) i
  have gu := w.dig.gt (by omega) (j + i)
  have h0 : 0 ≤ q * gt Vl i := Int.mul_nonneg hq0 gv.1
  have h1 : q * gt Vl i ≤ 18446744073709551615 * 18446744073709551615 := Int.mul_le_mul (by omega) (by omega) gv.1 (by omega)
  refine ⟨h0, by omega, by omega, ?_⟩
  refine w.set hi hk (Int.emod_nonneg _ (by omega)) (Int.emod_lt_of_pos _ (by omega)) ?_
  rw [val_take64, Int.pow_succ]
  have key : (gt u (j + i) - (q * gt Vl i % 18446744073709551616 + c) % 18446744073709551616 - br) % 18446744073709551616 - gt u (j + i) = 18446744073709551616 * ((if gt u (j + i) < (q * gt Vl i % 18446744073709551616 + c) % 18446744073709551616 + br then 1 else 0) + (q * gt Vl i / 18446744073709551616 + (q * gt Vl i % 18446744073709551616 + c) / 18446744073709551616)) - q * gt Vl i - c - br := by
    generalize q * gt Vl i = P at *
    split <;> omega
  generalize (gt u (j + i) - (q * gt Vl i % 18446744073709551616 + c) % 18446744073709551616 - br) % 18446744073709551616 - gt u (j + i) = D at *
  subst key
  grind
theorem win_sub_last {u0 u : List Int} {j n : Nat} {X br c : Int} (w : Win u0 u j n (X + 18446744073709551616 ^ n * (br + c))) (hk : j + n < u.length) (hb0 : 0 ≤ br) (hb : br ≤ 1) (hc0 : 0 ≤ c) (hc : c < 18446744073709551616) :
    Win u0 (u.set (j + n) ((gt u (j + n) - c - br) % 18446744073709551616)) j n (X + 18446744073709551616 ^ (n + 1) * (if gt u (j + n) < c + br then 1 else 0)) := by
  have gu := w.dig.gt (by omega) (j + n)
  refine w.set (Nat.le_refl _) hk (Int.emod_nonneg _ (by omega)) (Int.emod_lt_of_pos _ (by omega)) ?_
  rw [Int.pow_succ]
  have key : (gt u (j + n) - c - br) % 18446744073709551616 - gt u (j + n) = 18446744073709551616 * (if gt u (j + n) < c + br then 1 else 0) - c - br := by
    split <;> omega
  generalize (gt u (j + n) - c - br) % 18446744073709551616 - gt u (j + n) = D at *
  subst key
  grind
/-- The divisor added back. -/
theorem win_add {u0 u Vl : List Int} {j n i : Nat} {X c : Int} (w : Win u0 u j n (X + val 18446744073709551616 (Vl.take i) - 18446744073709551616 ^ i * c)) (hi : i ≤ n) (hk : j + i < u.length) (dV : Dig 18446744073709551616 Vl) (hc0 : 0 ≤ c) (hc : c ≤ 1) :
    0 ≤ (gt u (j + i) + gt Vl i + c) / 18446744073709551616 ∧ (gt u (j + i) + gt Vl i + c) / 18446744073709551616 ≤ 1 ∧
    Win u0 (u.set (j + i) ((gt u (j + i) + gt Vl i + c) % 18446744073709551616)) j n (X + val 18446744073709551616 (Vl.take (i + 1)) - 18446744073709551616 ^ (i + 1) * ((gt u (j + i) + gt Vl i + c) / 18446744073709551616)) := by
  have gv := dV.gt (by omega) i
  have gu := w.dig.gt (by omega) (j + i)
  refine ⟨by omega, by omega, ?_⟩
  refine w.set hi hk (Int.emod_nonneg _ (by omega)) (Int.emod_lt_of_pos _ (by omega)) ?_
  rw [val_take64, Int.pow_succ]
  have key : (gt u (j + i) + gt Vl i + c) % 18446744073709551616 - gt u (j + i) = gt Vl i + c - 18446744073709551616 * ((gt u (j + i) + gt Vl i + c) / 18446744073709551616) := by omega
  generalize (gt u (j + i) + gt Vl i + c) % 18446744073709551616 - gt u (j + i) = D at *
  subst key
  grind
theorem win_add_last {u0 u : List Int} {j n : Nat} {X c : Int} (w : Win u0 u j n (X - 18446744073709551616 ^ n * c)) (hk : j + n < u.length) (hc0 : 0 ≤ c) (hc : c ≤ 1) :
    0 ≤ (gt u (j + n) + c) / 18446744073709551616 ∧ (gt u (j + n) + c) / 18446744073709551616 ≤ 1 ∧
    Win u0 (u.set (j + n) ((gt u (j + n) + c) % 18446744073709551616)) j n (X - 18446744073709551616 ^ (n + 1) * ((gt u (j + n) + c) / 18446744073709551616)) := by
  have gu := w.dig.gt (by omega) (j + n)
  refine ⟨by omega, by omega, ?_⟩
  refine w.set (Nat.le_refl _) hk (Int.emod_nonneg _ (by omega)) (Int.emod_lt_of_pos _ (by omega)) ?_
  rw [Int.pow_succ]
  have key : (gt u (j + n) + c) % 18446744073709551616 - gt u (j + n) = c - 18446744073709551616 * ((gt u (j + n) + c) / 18446744073709551616) := by omega
  generalize (gt u (j + n) + c) % 18446744073709551616 - gt u (j + n) = D at *
  subst key
  grind
end Go.Proofs.Ytgeecahbahgjbaa

/- Division by one word; the rest moved down. -/
namespace Go.Proofs.Ytgeecahbahgjbaa
open Go Go.RowKit

theorem ab_cast (q V P c : Int) : -((q - 1) * V) + P * (1 - c) = -(q * V) + P + V - P * c := by grind
/-- An equation that omega is not to look at. -/
def TN (a b : Nat) : Prop := a = b
theorem TN.i {a b : Nat} (h : a = b) : TN a b := h
theorem TN.e {a b : Nat} (h : TN a b) : a = b := h
theorem mag_one {d : Nat} (hn : (mag (d : Int)).length = 1) : gt (mag (d : Int)) 0 = d := by
  have h := val_take64 (mag (d : Int)) 0
  rw [val_take_all (by omega), mag_val, Int.natAbs_natCast] at h
  simp only [List.take_zero, val, Int.pow_zero, Int.one_mul, Int.zero_add] at h
  exact h.symm
theorem div1_step {A out : List Int} {i : Nat} {d r : Int} (dA : Dig 18446744073709551616 A) (dO : Dig 18446744073709551616 out) (hi : i < out.length) (hr0 : 0 ≤ r) (hr : r < d)
    (h : val 18446744073709551616 (A.drop (i + 1)) = d * val 18446744073709551616 (out.drop (i + 1)) + r) :
    0 ≤ (r * 18446744073709551616 + gt A i) / d ∧ (r * 18446744073709551616 + gt A i) / d < 18446744073709551616 ∧ 0 ≤ (r * 18446744073709551616 + gt A i) % d ∧ (r * 18446744073709551616 + gt A i) % d < d ∧
    val 18446744073709551616 (A.drop i) = d * val 18446744073709551616 ((out.set i ((r * 18446744073709551616 + gt A i) / d)).drop i) + (r * 18446744073709551616 + gt A i) % d := by
  have ga := dA.gt (by omega) i
  have e1 := Int.mul_ediv_add_emod (r * 18446744073709551616 + gt A i) d
  refine ⟨Int.ediv_nonneg (by omega) (by omega), Int.ediv_lt_of_lt_mul (by omega) (by omega), Int.emod_nonneg _ (by omega), Int.emod_lt_of_pos _ (by omega), ?_⟩
  rw [val_gt_drop A i, val_gt_drop (out.set i _) i, gt_set hi, List.drop_set_of_lt (by omega), h]
  generalize (r * 18446744073709551616 + gt A i) / d = q at *
  generalize (r * 18446744073709551616 + gt A i) % d = s at *
  grind
theorem div1_fin {a d : Nat} {out : List Int} {r : Int} (hr0 : 0 ≤ r) (hr : r < d) (h : val 18446744073709551616 ((mag (a : Int)).drop 0) = d * val 18446744073709551616 (out.drop 0) + r) :
    val 18446744073709551616 out = ((a / d : Nat) : Int) ∧ r = ((a % d : Nat) : Int) := by
  rw [List.drop_zero, List.drop_zero, mag_val, Int.natAbs_natCast] at h
  obtain ⟨f1, f2⟩ := div_of (N := (a : Int)) (y := d) (Q := val 18446744073709551616 out) (R := r) (by rw [h, Int.mul_comm]) hr0 hr
  rw [Int.natCast_ediv, Int.natCast_emod, f1, f2]
  exact ⟨rfl, rfl⟩
theorem shl_low {x : Int} {k : Nat} (hk : k ≤ 64) : x * 2 ^ (64 - k) % 18446744073709551616 = x % 2 ^ k * 2 ^ (64 - k) := by
  have hpT : (2 : Int) ^ k * 2 ^ (64 - k) = 18446744073709551616 := by rw [← Int.pow_add, show k + (64 - k) = 64 by omega]; rfl
  rw [← hpT, Int.mul_comm x, Int.mul_comm (2 ^ k), Int.mul_emod_mul_of_pos _ _ (pow2_pos _), Int.mul_comm]
theorem or_down {x y : Int} {k : Nat} (hk : k ≤ 63) (hx0 : 0 ≤ x) (hx : x < 18446744073709551616) : bits .or .u64 (x / 2 ^ k) (y % 2 ^ k * 2 ^ (64 - k)) = x / 2 ^ k + y % 2 ^ k * 2 ^ (64 - k) ∧ 0 ≤ x / 2 ^ k + y % 2 ^ k * 2 ^ (64 - k) ∧ x / 2 ^ k + y % 2 ^ k * 2 ^ (64 - k) < 18446744073709551616 := by
  have hp := pow2_pos k
  have hT := pow2_pos (64 - k)
  have hpT : (2 : Int) ^ k * 2 ^ (64 - k) = 18446744073709551616 := by rw [← Int.pow_add, show k + (64 - k) = 64 by omega]; rfl
  have d2 := Int.emod_nonneg y (show (2 : Int) ^ k ≠ 0 by omega)
  have d3 := Int.emod_lt_of_pos y hp
  have d4 : 0 ≤ x / 2 ^ k := Int.ediv_nonneg hx0 (by omega)
  have d5 : x / 2 ^ k < 2 ^ (64 - k) := Int.ediv_lt_of_lt_mul hp (by rw [Int.mul_comm, hpT]; exact hx)
  have d6 : x / 2 ^ k ≤ x := Int.ediv_le_self _ hx0
  have f2 := Int.mul_le_mul_of_nonneg_right (show y % 2 ^ k + 1 ≤ 2 ^ k by omega) (Int.le_of_lt hT)
  rw [hpT] at f2
  have f3 : 0 ≤ y % 2 ^ k * 2 ^ (64 - k) := Int.mul_nonneg d2 (by omega)
  have f4 : (y % 2 ^ k + 1) * 2 ^ (64 - k) = y % 2 ^ k * 2 ^ (64 - k) + 2 ^ (64 - k) := by grind
  refine ⟨or_join d4 d5 d2 (by omega) (by omega), by omega, by omega⟩
theorem gt_take {l : List Int} {i m : Nat} (h : i < m) : gt (l.take m) i = gt l i := by
  unfold gt; rw [List.getElem?_take_of_lt h]
theorem gt_trimW {l : List Int} (i : Nat) (h : i < (trimW l).length) : gt (trimW l) i = gt l i := by
  induction hl : l.length generalizing l with
  | zero =>
    have : l = [] := List.length_eq_zero_iff.mp hl
    subst this; simp [trimW] at h
  | succ n ih =>
    rcases List.eq_nil_or_concat l with rfl | ⟨l', x, rfl⟩
    · simp at hl
    · rw [List.concat_eq_append] at *
      by_cases hx : x = 0
      · subst hx
        rw [trimW_concat_zero] at h ⊢
        rw [ih h (by simp at hl; omega)]
        have := trimW_length l'
        unfold gt
        rw [List.getElem?_append_left (by omega)]
      · rw [trimW_concat_pos _ _ hx]
/-- What is left: trimmed, moved down, is the rest. -/
theorem rest_down {a d k n : Nat} {u o : List Int} (hk : k ≤ 63) (du : Dig 18446744073709551616 u) (hn : n ≤ u.length) (hu : val 18446744073709551616 u = ((a % d : Nat) : Int) * 2 ^ k) (hlt : val 18446744073709551616 u < (18446744073709551616 : Int) ^ n)
    (dO : Dig 18446744073709551616 o) (ho : (trimW (u.take n)).length ≤ o.length) (hs : ∀ x, x < (trimW (u.take n)).length → gt o x = gt (trimW (u.take n)) x / 2 ^ k + gt (trimW (u.take n)) (x + 1) % 2 ^ k * 2 ^ (64 - k)) :
    Dig 18446744073709551616 (o.take (trimW (u.take n)).length) ∧ trimW (o.take (trimW (u.take n)).length) = mag ((a % d : Nat) : Int) := by
  have dO2 := dO.take (trimW (u.take n)).length
  refine ⟨dO2, ?_⟩
  rw [mag_of dO2]
  congr 1
  have hsp := val_split u n
  have h0 := val_nonneg (du.take n)
  have h1 := val_nonneg (du.drop n)
  have hz : val 18446744073709551616 (u.drop n) = 0 := by
    rcases Int.lt_or_le 0 (val 18446744073709551616 (u.drop n)) with h | h
    · exfalso
      have := Int.mul_le_mul_of_nonneg_left (show 1 ≤ val 18446744073709551616 (u.drop n) by omega) (Int.le_of_lt (powB_pos n))
      rw [Int.mul_one] at this; omega
    · omega
  rw [hz, Int.mul_zero, Int.add_zero] at hsp
  refine val_down (l := trimW (u.take n)) (s := k) (du.take n).trim hk (by rw [trimW_val, ← hsp, hu]) (by simp; omega) fun i hi => ?_
  rw [gt_take hi]; exact hs i hi
theorem fz_wdt {id n : Nat} {k : IntKind} {l : List Int} (h : n ≤ l.length) : fz id (wd k l) (.osl id 0 n) = Wd k (l.take n) := by
  simp [fz, Wd, wd, List.map_take, h]
end Go.Proofs.Ytgeecahbahgjbaa

/- Points as the program and its reference hold them. -/
namespace Go.Proofs.Ytgeecahbahgjbaa
open Go Go.RowKit

structure W4 where
  a : Int
  b : Int
  c : Int
  d : Int
def W4.ok (x : W4) : Prop := U64 x.a ∧ U64 x.b ∧ U64 x.c ∧ U64 x.d
def W4.v (x : W4) : Int := sval x.a x.b x.c x.d
theorem W4.bg {x : W4} (h : x.ok) : Bg 4 x.v := sval_bg h.1 h.2.1 h.2.2.1 h.2.2.2
structure Pt where
  x : W4
  y : W4
  w : W4
def Pt.ok (p : Pt) : Prop := p.x.ok ∧ p.y.ok ∧ p.w.ok
def Pt.cells (p : Pt) : List AV := [.int .u64 p.x.a, .int .u64 p.x.b, .int .u64 p.x.c, .int .u64 p.x.d, .int .u64 p.y.a, .int .u64 p.y.b, .int .u64 p.y.c, .int .u64 p.y.d, .int .u64 p.w.a, .int .u64 p.w.b, .int .u64 p.w.c, .int .u64 p.w.d]
def Pt.av (p : Pt) : AV := .agg p.cells
/-- Parts of 80 bits at most. -/
def sm (x y w : Int) : Bool := decide (bitLen x.natAbs ≤ 80) && (decide (bitLen y.natAbs ≤ 80) && decide (bitLen w.natAbs ≤ 80))
def Pt.good (p : Pt) : Bool := decide (0 < p.w.v) && sm p.x.v p.y.v p.w.v && decide (Nat.gcd (Int.gcd p.x.v p.y.v) p.w.v.natAbs = 1)
def l3C (x y w : Int) : List AV := [.bool (decide (x < 0)), Wd .u32 (dg x), .bool (decide (y < 0)), Wd .u32 (dg y), .bool (decide (w < 0)), Wd .u32 (dg w)]
def l3A (x y w : Int) : AV := .agg (l3C x y w)
def spC (x y w : Int) : List AV := [.bool (decide (x < 0)), Wd .u64 (mag x), .bool (decide (y < 0)), Wd .u64 (mag y), .bool (decide (w < 0)), Wd .u64 (mag w)]
def spA (x y w : Int) : AV := .agg (spC x y w)
theorem one_cmp (g : Int) : ((if g < 1 then (-1 : Int) else if g > 1 then 1 else 0) == 0) = decide (g = 1) := by
  by_cases h : g = 1
  · subst h; rfl
  · rw [decide_eq_false h]
    split
    · rfl
    · split
      · rfl
      · exfalso; omega
/-- The greatest divisor of all. -/
def gcdL (zs : List Int) : Nat := zs.foldl (fun g z => Nat.gcd g z.natAbs) 0
def numC (z : Int) : List AV := [.bool (decide (z < 0)), Wd .u64 (mag z)]
theorem gcdL_three (x y w : Int) : gcdL [x, y, w] = Nat.gcd (Int.gcd x y) w.natAbs := by
  simp [gcdL, Int.gcd]
theorem Bg.gcd {j : Nat} {a b : Nat} (ha : Bg j (a : Int)) (hb : Bg j (b : Int)) : Bg j ((Nat.gcd a b : Nat) : Int) := by
  rcases Nat.eq_zero_or_pos a with h | h
  · subst h; rw [Nat.gcd_zero_left]; exact hb
  · have := Nat.gcd_le_left b h
    unfold Bg at *
    rw [Int.natAbs_natCast] at *
    omega
theorem gcdL_bg {j : Nat} (zs : List Int) (h : ∀ z ∈ zs, Bg j z) (i : Nat) : Bg j ((gcdL (zs.take i) : Nat) : Int) := by
  have key : ∀ (l : List Int) (g : Nat), (∀ z ∈ l, Bg j z) → Bg j (g : Int) → Bg j ((l.foldl (fun g z => Nat.gcd g z.natAbs) g : Nat) : Int) := by
    intro l
    induction l with
    | nil => intro g _ hg; exact hg
    | cons z r ih => intro g hl hg; exact ih _ (fun y hy => hl y (by simp [hy])) (Bg.gcd hg (hl z (by simp)).abs)
  refine key _ _ (fun z hz => h z (List.mem_of_mem_take hz)) ?_
  unfold Bg; exact Nat.pow_pos (by omega)
theorem gcdL_succ (zs : List Int) {i : Nat} (h : i < zs.length) : gcdL (zs.take (i + 1)) = Nat.gcd (gcdL (zs.take i)) (gt zs i).natAbs := by
  have e := take_succ_gt h
  rw [e]; simp [gcdL, List.foldl_append]
theorem max_sm (x y w : Int) : decide ((if (if bitLen x.natAbs < bitLen y.natAbs then (bitLen y.natAbs : Int) else (bitLen x.natAbs : Int)) < (bitLen w.natAbs : Int) then (bitLen w.natAbs : Int) else if bitLen x.natAbs < bitLen y.natAbs then (bitLen y.natAbs : Int) else (bitLen x.natAbs : Int)) ≤ 80) = sm x y w := by
  unfold sm
  rw [← Bool.decide_and, ← Bool.decide_and]
  congr 1
  apply propext
  by_cases h1 : bitLen x.natAbs < bitLen y.natAbs
  · simp only [h1, if_true]
    split <;> omega
  · simp only [h1, if_false]
    split <;> omega
end Go.Proofs.Ytgeecahbahgjbaa

/- How large loops are; rows being filled. -/
namespace Go.Proofs.Ytgeecahbahgjbaa
open Go Go.RowKit

theorem fz_fill {α : Type} {id n : Nat} (f : α → List AV) (l : List α) (h : n = l.length) : fz id (l.map f) (.osl id 0 n) = .isl (l.map f) := by
  subst h
  simp [fz]
  rw [← List.map_take, List.take_length]
end Go.Proofs.Ytgeecahbahgjbaa

/- Euclid's division by signs; determinants. -/
namespace Go.Proofs.Ytgeecahbahgjbaa
open Go Go.RowKit

theorem ediv_uniq {a b Q R : Int} (hb : b ≠ 0) (h : a = b * Q + R) (h0 : 0 ≤ R) (h1 : R < (b.natAbs : Int)) : Q = a / b ∧ R = a % b := by
  rcases Int.lt_or_le 0 b with hp | hp
  · have := div_of (N := a) (y := b) (Q := Q) (R := R) (by rw [h, Int.mul_comm]) h0 (by omega)
    exact ⟨this.1.symm, this.2.symm⟩
  · have h2 := div_of (N := a) (y := -b) (Q := -Q) (R := R) (by rw [h]; grind) h0 (by omega)
    rw [Int.ediv_neg, Int.emod_neg] at h2
    exact ⟨by omega, h2.2.symm⟩
/-- Quotient and rest by signs. -/
theorem eu_lem (a b : Int) (hb : b ≠ 0) :
    (¬ sg (decide (a < 0)) ((a.natAbs % b.natAbs : Nat) : Int) < 0 → sg (decide (a < 0) != decide (b < 0)) ((a.natAbs / b.natAbs : Nat) : Int) = a / b ∧ sg (decide (a < 0)) ((a.natAbs % b.natAbs : Nat) : Int) = a % b) ∧
    (sg (decide (a < 0)) ((a.natAbs % b.natAbs : Nat) : Int) < 0 → b < 0 → sg (decide (a < 0) != decide (b < 0)) ((a.natAbs / b.natAbs : Nat) : Int) + 1 = a / b ∧ sg (decide (a < 0)) ((a.natAbs % b.natAbs : Nat) : Int) - b = a % b) ∧
    (sg (decide (a < 0)) ((a.natAbs % b.natAbs : Nat) : Int) < 0 → ¬ b < 0 → sg (decide (a < 0) != decide (b < 0)) ((a.natAbs / b.natAbs : Nat) : Int) - 1 = a / b ∧ sg (decide (a < 0)) ((a.natAbs % b.natAbs : Nat) : Int) + b = a % b) := by
  have e := Nat.div_add_mod a.natAbs b.natAbs
  have hlt := Nat.mod_lt a.natAbs (show b.natAbs > 0 by omega)
  generalize a.natAbs / b.natAbs = q at *
  generalize a.natAbs % b.natAbs = r at *
  have e2 : (a.natAbs : Int) = (b.natAbs : Int) * q + r := by
    have : ((b.natAbs * q + r : Nat) : Int) = (a.natAbs : Int) := by rw [e]
    rw [← this]; simp
  by_cases ha : a < 0 <;> by_cases hn : b < 0
  · have ea : (a.natAbs : Int) = -a := by omega
    have eb : (b.natAbs : Int) = -b := by omega
    rw [ea, eb] at e2
    simp only [ha, hn, decide_true, bne_self_eq_false, sg_true, sg_false]
    refine ⟨fun h => ediv_uniq hb ?_ (by omega) (by omega), fun h _ => ediv_uniq hb ?_ (by omega) (by omega), fun h h2 => absurd trivial (fun _ => h2 trivial)⟩
    · have : (r : Int) = 0 := by omega
      grind
    · grind
  · have ea : (a.natAbs : Int) = -a := by omega
    have eb : (b.natAbs : Int) = b := by omega
    rw [ea, eb] at e2
    simp only [ha, hn, decide_true, decide_false, sg_true, show (true != false) = true from rfl]
    refine ⟨fun h => ediv_uniq hb ?_ (by omega) (by omega), fun h h2 => absurd h2 (by simp), fun h _ => ediv_uniq hb ?_ (by omega) (by omega)⟩
    · have : (r : Int) = 0 := by omega
      grind
    · grind
  · have ea : (a.natAbs : Int) = a := by omega
    have eb : (b.natAbs : Int) = -b := by omega
    rw [ea, eb] at e2
    simp only [ha, hn, decide_true, decide_false, sg_true, sg_false, show (false != true) = true from rfl]
    refine ⟨fun h => ediv_uniq hb ?_ (by omega) (by omega), fun h => absurd h (by omega), fun h => absurd h (by omega)⟩
    grind
  · have ea : (a.natAbs : Int) = a := by omega
    have eb : (b.natAbs : Int) = b := by omega
    rw [ea, eb] at e2
    simp only [ha, hn, decide_false, bne_self_eq_false, sg_false]
    refine ⟨fun h => ediv_uniq hb ?_ (by omega) (by omega), fun h => absurd h (by omega), fun h => absurd h (by omega)⟩
    exact e2
def sg3 (z : Int) : Int := if z < 0 then -1 else if z > 0 then 1 else 0
end Go.Proofs.Ytgeecahbahgjbaa

/- Points made out of numbers. -/
namespace Go.Proofs.Ytgeecahbahgjbaa
open Go Go.RowKit

/-- A number in four words, noughts where it is not told. -/
def W4z (z : Int) : W4 := if fits z then ⟨modW z / 18446744073709551616 / 18446744073709551616 / 18446744073709551616, modW z / 18446744073709551616 / 18446744073709551616 % 18446744073709551616, modW z / 18446744073709551616 % 18446744073709551616, modW z % 18446744073709551616⟩ else ⟨0, 0, 0, 0⟩
def W4.l (x : W4) : List AV := [.int .u64 x.a, .int .u64 x.b, .int .u64 x.c, .int .u64 x.d]
theorem wdT_l (z : Int) : wdT z = .agg (W4z z).l := by unfold wdT W4z W4.l wdZ wdI; split <;> rfl
theorem W4z_ok (z : Int) : (W4z z).ok := by
  unfold W4z W4.ok U64
  split
  · unfold modW; simp only []; omega
  · simp
theorem uval_mod {m : Int} (h0 : 0 ≤ m) (h1 : m < 115792089237316195423570985008687907853269984665640564039457584007913129639936) : uval (m / 18446744073709551616 / 18446744073709551616 / 18446744073709551616) (m / 18446744073709551616 / 18446744073709551616 % 18446744073709551616) (m / 18446744073709551616 % 18446744073709551616) (m % 18446744073709551616) = m := by
  unfold uval; omega
theorem W4z_v {z : Int} (h : fits z = true) : (W4z z).v = z := by
  unfold W4z W4.v
  rw [if_pos h]
  have hf := h
  unfold fits at hf
  simp only [decide_eq_true_eq] at hf
  unfold sval
  have hm : 0 ≤ modW z ∧ modW z < 115792089237316195423570985008687907853269984665640564039457584007913129639936 := by unfold modW; omega
  rw [uval_mod hm.1 hm.2]
  simp only []
  unfold modW at *
  split <;> omega
def pt0 : Pt := ⟨⟨0, 0, 0, 0⟩, ⟨0, 0, 0, 0⟩, ⟨0, 0, 0, 0⟩⟩
theorem pt0_ok : pt0.ok := by unfold Pt.ok W4.ok U64 pt0; simp
/-- A point out of numbers, where they are small. -/
def pt3 (x y w : Int) : Pt := if sm x y w = true then ⟨W4z x, W4z y, W4z w⟩ else pt0
theorem pt3_ok (x y w : Int) : (pt3 x y w).ok := by
  unfold pt3; split
  · exact ⟨W4z_ok _, W4z_ok _, W4z_ok _⟩
  · exact pt0_ok
def gcd3 (x y w : Int) : Int := ((Nat.gcd (Int.gcd x y) w.natAbs : Nat) : Int)
theorem gcd3_pos {x y w : Int} (h : w ≠ 0) : 0 < gcd3 x y w := by
  unfold gcd3
  have := Nat.gcd_pos_of_pos_right (Int.gcd x y) (show 0 < w.natAbs by omega)
  omega
theorem gcd3_neg (x y w : Int) : gcd3 (-x) (-y) (-w) = gcd3 x y w := by
  unfold gcd3; rw [Int.gcd_neg, Int.neg_gcd, Int.natAbs_neg]
def nrm (w x : Int) : Int := if w < 0 then -x else x
theorem gcd3_nrm (x y w : Int) : gcd3 (nrm w x) (nrm w y) (nrm w w) = gcd3 x y w := by
  unfold nrm; split
  · exact gcd3_neg _ _ _
  · rfl
theorem Bg.nrm {j : Nat} {w x : Int} (h : Bg j x) : Bg j (nrm w x) := by
  unfold Go.Proofs.Ytgeecahbahgjbaa.nrm; split
  · exact h.neg
  · exact h
theorem Bg.div {j : Nat} {x g : Int} (h : Bg j x) (hg : 0 < g) : Bg j (x / g) := by
  unfold Bg at *
  have e := Int.mul_ediv_add_emod x g
  have h1 := Int.emod_nonneg x (show g ≠ 0 by omega)
  have h2 := Int.emod_lt_of_pos x hg
  rcases Int.lt_or_le x 0 with hx | hx
  · have hq : x / g < 0 := Int.ediv_neg_of_neg_of_pos hx hg
    have : x ≤ x / g := by
      have h3 := Int.mul_le_mul_of_nonneg_left (show x / g + 1 ≤ 0 by omega) (show 0 ≤ g - 1 by omega)
      rw [Int.mul_zero] at h3
      have e3 : (g - 1) * (x / g + 1) = g * (x / g) + g - x / g - 1 := by grind
      omega
    omega
  · have hq : 0 ≤ x / g := Int.ediv_nonneg hx (by omega)
    have : x / g ≤ x := Int.ediv_le_self _ hx
    omega
theorem uval_zero {a b c d : Int} (ha : U64 a) (hb : U64 b) (hc : U64 c) (hd : U64 d) (h : sval a b c d = 0) : a = 0 ∧ b = 0 ∧ c = 0 ∧ d = 0 := by
  unfold U64 at *
  unfold sval uval at h
  split at h <;> omega
theorem W4.ne {x : W4} (h : x.ok) (hn : ¬ (x.a = 0 ∧ x.b = 0 ∧ x.c = 0 ∧ x.d = 0)) : x.v ≠ 0 := fun hz => hn (uval_zero h.1 h.2.1 h.2.2.1 h.2.2.2 hz)
end Go.Proofs.Ytgeecahbahgjbaa

/- Points made and halved, as the reference does it. -/
namespace Go.Proofs.Ytgeecahbahgjbaa
open Go Go.RowKit

def mkP (x y w : Int) : Pt := if w = 0 then pt0 else pt3 (nrm w x / gcd3 x y w) (nrm w y / gcd3 x y w) (nrm w w / gcd3 x y w)
def mkB (x y w : Int) : Bool := if w = 0 then false else sm (nrm w x / gcd3 x y w) (nrm w y / gcd3 x y w) (nrm w w / gcd3 x y w)
theorem mkP_ok (x y w : Int) : (mkP x y w).ok := by
  unfold mkP; split
  · exact pt0_ok
  · exact pt3_ok _ _ _
theorem good_pos {p : Pt} (h : p.good = true) : 0 < p.w.v := by
  unfold Pt.good at h
  simp only [Bool.and_eq_true, decide_eq_true_eq] at h
  exact h.1.1
theorem v_zero : W4.v ⟨0, 0, 0, 0⟩ = 0 := by decide
end Go.Proofs.Ytgeecahbahgjbaa

/- Numbers that are drawn. -/
namespace Go.Proofs.Ytgeecahbahgjbaa
open Go Go.RowKit

theorem or_u64 {a b : Int} (ha : U64 a) (hb : U64 b) : U64 (bits .or .u64 a b) := by
  unfold U64 at *
  rw [u64_or a b ha.1 ha.2 hb.1 hb.2]
  have : a.toNat ||| b.toNat < 2 ^ 64 := Nat.or_lt_two_pow (by omega) (by omega)
  omega
theorem wrap_U64 (x : Int) : U64 (IntKind.u64.wrap x) := by unfold U64; rw [wrap_u64m]; omega
def tab7 : List Int := [0, 1, -1, 2, 10, -9223372036854775808, 9223372036854775807]
theorem tab7_b (k : Nat) : -9223372036854775808 ≤ gt tab7 k ∧ gt tab7 k ≤ 9223372036854775807 := by
  have h : ∀ x ∈ tab7, -9223372036854775808 ≤ x ∧ x ≤ 9223372036854775807 := by decide
  unfold gt
  cases hk : tab7[k]? with
  | none => simp
  | some x => exact h x (List.mem_of_getElem? hk)
def tab6 : List W4 := [⟨9223372036854775808, 0, 0, 0⟩, ⟨9223372036854775807, 18446744073709551615, 18446744073709551615, 18446744073709551615⟩, ⟨9223372036854775808, 0, 0, 1⟩, ⟨4611686018427387904, 0, 0, 0⟩, ⟨0, 1, 0, 0⟩, ⟨0, 0, 1, 0⟩]
theorem tab6_get (k : Nat) (h : k < 6) : ∃ x : W4, x.ok ∧ (tab6.map W4.l)[k]? = some (W4.l x) := by
  have hok : ∀ x ∈ tab6, x.ok := by
    intro x hx
    simp only [tab6, List.mem_cons, List.not_mem_nil, or_false] at hx
    rcases hx with rfl | rfl | rfl | rfl | rfl | rfl <;> (unfold W4.ok U64; simp)
  have hk : k < tab6.length := h
  exact ⟨tab6[k], hok _ (List.getElem_mem hk), by rw [List.getElem?_map, List.getElem?_eq_getElem hk]; rfl⟩
end Go.Proofs.Ytgeecahbahgjbaa

/- Numbers that are drawn, in four words. -/
namespace Go.Proofs.Ytgeecahbahgjbaa
open Go Go.RowKit

theorem wrap_I64 (x : Int) : -9223372036854775808 ≤ IntKind.i64.wrap x ∧ IntKind.i64.wrap x ≤ 9223372036854775807 := by
  simp only [IntKind.wrap, IntKind.bits, IntKind.signed]
  simp
  split <;> omega
theorem dg_one : dg 1 = [1] := by
  have h := dg_of (l := [1]) (Dig.cons (by omega) (by omega) (Dig.nil _))
  simp only [val, Int.mul_zero, Int.add_zero] at h
  rw [← h]
  exact trimW_concat_pos [] 1 (by omega)
theorem shr_U64 {x : Int} (h : U64 x) (n : Nat) : U64 (x.fdiv (2 ^ n)) := by
  unfold U64 at *
  have hp := pow2_pos n
  rw [Int.fdiv_eq_ediv_of_nonneg _ (by omega)]
  have h1 : x / 2 ^ n ≤ x := Int.ediv_le_self _ h.1
  have h2 : 0 ≤ x / 2 ^ n := Int.ediv_nonneg h.1 (by omega)
  omega
theorem bg_pow (n : Nat) (h : n < 256) (b : Bool) : Bg 4 (sg b ((1 * 2 ^ n : Nat) : Int)) := by
  have h1 : (2 : Nat) ^ n < 2 ^ 256 := Nat.pow_lt_pow_right (by omega) h
  have e : (2 : Nat) ^ 256 = 18446744073709551616 ^ 4 := by decide
  have : Bg 4 ((1 * 2 ^ n : Nat) : Int) := by unfold Bg; rw [Int.natAbs_natCast]; omega
  cases b
  · exact this
  · exact this.neg
def gt6 (k : Nat) : W4 := (tab6[k]?).getD ⟨0, 0, 0, 0⟩
theorem gt6_ok (k : Nat) : (gt6 k).ok := by
  unfold gt6
  rcases Nat.lt_or_ge k 6 with h | h
  · obtain ⟨x, hx, he⟩ := tab6_get k h
    have hk : k < tab6.length := h
    rw [List.getElem?_map, List.getElem?_eq_getElem hk] at he
    rw [List.getElem?_eq_getElem hk]
    simp only [Option.map_some, Option.some.injEq, W4.l, List.cons.injEq, AV.int.injEq, true_and, and_true] at he
    obtain ⟨e1, e2, e3, e4⟩ := he
    show (tab6[k]).ok
    unfold W4.ok at *
    rw [e1, e2, e3, e4]; exact hx
  · have : tab6[k]? = none := List.getElem?_eq_none h
    rw [this]; show W4.ok ⟨0, 0, 0, 0⟩
    unfold W4.ok U64; simp
theorem gt6_get (k : Nat) (h : k < 6) : (List.map W4.l tab6)[k]? = some [.int .u64 (gt6 k).a, .int .u64 (gt6 k).b, .int .u64 (gt6 k).c, .int .u64 (gt6 k).d] := by
  have hk : k < tab6.length := h
  unfold gt6
  rw [List.getElem?_map, List.getElem?_eq_getElem hk]; rfl
end Go.Proofs.Ytgeecahbahgjbaa

/- Points in order; between; crossings. -/
namespace Go.Proofs.Ytgeecahbahgjbaa
open Go Go.RowKit

def cm (a b : Int) : Int := if a < b then -1 else if a > b then 1 else 0
theorem sval_inj {a b c d a' b' c' d' : Int} (ha : U64 a) (hb : U64 b) (hc : U64 c) (hd : U64 d) (ha' : U64 a') (hb' : U64 b') (hc' : U64 c') (hd' : U64 d') (h : sval a b c d = sval a' b' c' d') : a = a' ∧ b = b' ∧ c = c' ∧ d = d' := by
  unfold U64 at *
  unfold sval uval at h
  split at h <;> split at h <;> omega
theorem W4.inj {x y : W4} (hx : x.ok) (hy : y.ok) (h : x.v = y.v) : x = y := by
  have := sval_inj hx.1 hx.2.1 hx.2.2.1 hx.2.2.2 hy.1 hy.2.1 hy.2.2.1 hy.2.2.2 h
  cases x; cases y; simp_all
instance : DecidableEq W4 := fun p q => decidable_of_iff (p.a = q.a ∧ p.b = q.b ∧ p.c = q.c ∧ p.d = q.d) (by cases p; cases q; simp)
instance : DecidableEq Pt := fun p q => decidable_of_iff (p.x = q.x ∧ p.y = q.y ∧ p.w = q.w) (by cases p; cases q; simp)
end Go.Proofs.Ytgeecahbahgjbaa

/- On which side of loops a point is. -/
namespace Go.Proofs.Ytgeecahbahgjbaa
open Go Go.RowKit

def sgn (o : Bool) : Int := if o then 1 else -1
end Go.Proofs.Ytgeecahbahgjbaa

/- Fractions. -/
namespace Go.Proofs.Ytgeecahbahgjbaa
open Go Go.RowKit

structure Rt where
  up : W4
  down : W4
def Rt.ok (r : Rt) : Prop := r.up.ok ∧ r.down.ok
def Rt.cells (r : Rt) : List AV := [.int .u64 r.up.a, .int .u64 r.up.b, .int .u64 r.up.c, .int .u64 r.up.d, .int .u64 r.down.a, .int .u64 r.down.b, .int .u64 r.down.c, .int .u64 r.down.d]
def Rt.av (r : Rt) : AV := .agg r.cells
def Rt.good (r : Rt) : Bool := decide (0 < r.down.v) && decide (Int.gcd r.up.v r.down.v = 1)
instance : DecidableEq Rt := fun p q => decidable_of_iff (p.up = q.up ∧ p.down = q.down) (by cases p; cases q; simp)
def W40 : W4 := ⟨0, 0, 0, 0⟩
def Rt0 : Rt := ⟨W40, W40⟩
def gg (u d : Int) : Int := ((Int.gcd u d : Nat) : Int)
def lowU (u d : Int) : Int := nrm d u / gg u d
def lowD (u d : Int) : Int := nrm d d / gg u d
def told (u d : Int) : Rt × Bool := if d = 0 then (Rt0, false) else if fits (lowU u d) && fits (lowD u d) then (⟨W4z (lowU u d), W4z (lowD u d)⟩, true) else (Rt0, false)
theorem gg_pos {u d : Int} (h : d ≠ 0) : 0 < gg u d := by
  unfold gg; have := Int.gcd_pos_of_ne_zero_right u h; omega
theorem gg_nrm (u d : Int) : gg (nrm d u) (nrm d d) = gg u d := by
  unfold nrm gg; split
  · simp
  · rfl
theorem gg_l (u d : Int) : gg u d ∣ u := Int.gcd_dvd_left ..
theorem gg_r (u d : Int) : gg u d ∣ d := Int.gcd_dvd_right ..
theorem lowU_mul {u d : Int} : lowU u d * gg u d = nrm d u := by
  unfold lowU; rw [← gg_nrm]; exact Int.ediv_mul_cancel (gg_l _ _)
theorem lowD_mul {u d : Int} : lowD u d * gg u d = nrm d d := by
  unfold lowD; rw [← gg_nrm]; exact Int.ediv_mul_cancel (gg_r _ _)
theorem nrm_pos {d : Int} (h : d ≠ 0) : 0 < nrm d d := by unfold nrm; split <;> omega
theorem lowD_pos {u d : Int} (h : d ≠ 0) : 0 < lowD u d := by
  have e := @lowD_mul u d
  have p := nrm_pos h
  have g := @gg_pos u d h
  rcases Int.lt_or_le 0 (lowD u d) with h' | h'
  · exact h'
  · have := Int.mul_nonpos_of_nonpos_of_nonneg h' (Int.le_of_lt g); omega
theorem nrm_cross (u d : Int) : nrm d u * d = u * nrm d d := by unfold nrm; split <;> grind
theorem low_cross {u d : Int} (h : d ≠ 0) : lowU u d * d = u * lowD u d := by
  have e1 := @lowU_mul u d
  have e2 := @lowD_mul u d
  have e3 := nrm_cross u d
  rw [← e1, ← e2] at e3
  have : lowU u d * d * gg u d = u * lowD u d * gg u d := by grind
  exact Int.eq_of_mul_eq_mul_right (by have := @gg_pos u d h; omega) this
theorem low_red {u d : Int} (h : d ≠ 0) : Int.gcd (lowU u d) (lowD u d) = 1 := by
  unfold lowU lowD
  rw [← gg_nrm]
  have := gg_pos (u := nrm d u) (d := nrm d d) (by have := nrm_pos h; omega)
  exact Int.gcd_ediv_gcd_ediv_gcd (by unfold gg at this; omega)
theorem red_uniq {U D U' D' : Int} (hD : 0 < D) (hD' : 0 < D') (r : Int.gcd U D = 1) (r' : Int.gcd U' D' = 1) (e : U * D' = U' * D) : U = U' ∧ D = D' := by
  have n : U.natAbs * D'.natAbs = U'.natAbs * D.natAbs := by rw [← Int.natAbs_mul, ← Int.natAbs_mul, e]
  have c : Nat.Coprime U.natAbs D.natAbs := r
  have c' : Nat.Coprime U'.natAbs D'.natAbs := r'
  have d1 : D.natAbs ∣ D'.natAbs := c.symm.dvd_of_dvd_mul_left ⟨U'.natAbs, by rw [n, Nat.mul_comm]⟩
  have d2 : D'.natAbs ∣ D.natAbs := c'.symm.dvd_of_dvd_mul_left ⟨U.natAbs, by rw [← n, Nat.mul_comm]⟩
  have ed : D = D' := by have := Nat.dvd_antisymm d1 d2; omega
  subst ed
  exact ⟨Int.eq_of_mul_eq_mul_right (by omega) e, rfl⟩
theorem low_uniq {u d U D : Int} (h : d ≠ 0) (hD : 0 < D) (r : Int.gcd U D = 1) (e : U * d = u * D) : lowU u d = U ∧ lowD u d = D := by
  refine red_uniq (lowD_pos h) hD (low_red h) r ?_
  have c := @low_cross u d h
  have : lowU u d * D * d = U * lowD u d * d := by grind
  exact Int.eq_of_mul_eq_mul_right h this
theorem W4.fits {x : W4} (h : x.ok) : fits x.v = true := by
  obtain ⟨ha, hb, hc, hd⟩ := h
  unfold U64 at *
  unfold W4.v sval uval Ytgeecahbahgjbaa.fits
  simp only [decide_eq_true_eq]
  split <;> omega
theorem W4z_of {x : W4} (h : x.ok) : W4z x.v = x := W4.inj (W4z_ok _) h (W4z_v (W4.fits h))
theorem told_fit {u d : Int} (h : d ≠ 0) : told u d = if fits (lowU u d) && fits (lowD u d) then (⟨W4z (lowU u d), W4z (lowD u d)⟩, true) else (Rt0, false) := by unfold told; rw [if_neg h]
end Go.Proofs.Ytgeecahbahgjbaa

/- Spots and segments; where two segments meet. -/
namespace Go.Proofs.Ytgeecahbahgjbaa
open Go Go.RowKit

structure Sp where
  x : Int
  y : Int
instance : DecidableEq Sp := fun p q => decidable_of_iff (p.x = q.x ∧ p.y = q.y) (by cases p; cases q; simp)
structure Sg where
  a : Sp
  b : Sp
def I64 (x : Int) : Prop := -9223372036854775808 ≤ x ∧ x ≤ 9223372036854775807
def Sp.ok (p : Sp) : Prop := I64 p.x ∧ I64 p.y
def Sg.ok (s : Sg) : Prop := s.a.ok ∧ s.b.ok
def Sp.cells (p : Sp) : List AV := [.int .i64 p.x, .int .i64 p.y]
def Sp.av (p : Sp) : AV := .agg p.cells
def Sg.cells (s : Sg) : List AV := [.int .i64 s.a.x, .int .i64 s.a.y, .int .i64 s.b.x, .int .i64 s.b.y]
def Sg.av (s : Sg) : AV := .agg s.cells
def inM (x : Int) : Bool := decide (-1000000 ≤ x) && decide (x ≤ 1000000)
def Sp.good (p : Sp) : Bool := inM p.x && inM p.y
def lsS (p q : Sp) : Bool := decide (p.x < q.x) || (decide (p.x = q.x) && decide (p.y < q.y))
def Sg.good (s : Sg) : Bool := s.a.good && (s.b.good && lsS s.a s.b)
def crs (a b c : Sp) : Int := (b.x - a.x) * (c.y - a.y) - (b.y - a.y) * (c.x - a.x)
theorem inM_b {x : Int} (h : inM x = true) : -1000000 ≤ x ∧ x ≤ 1000000 := by simp [inM] at h; exact h
theorem Sp.b {p : Sp} (h : p.good = true) : -1000000 ≤ p.x ∧ p.x ≤ 1000000 ∧ -1000000 ≤ p.y ∧ p.y ≤ 1000000 := by
  simp only [Sp.good, Bool.and_eq_true] at h
  exact ⟨(inM_b h.1).1, (inM_b h.1).2, (inM_b h.2).1, (inM_b h.2).2⟩
def lowS (s t : Sg) : Sp := if lsS s.a t.a = true then t.a else s.a
def highS (s t : Sg) : Sp := if lsS t.b s.b = true then t.b else s.b
def mn (a b : Int) : Int := if b < a then b else a
def mx (a b : Int) : Int := if a < b then b else a
/-- Apart: the boxes have nothing in common. -/
def apart (s t : Sg) : Bool := decide (mn s.b.x t.b.x < mx s.a.x t.a.x) || decide (mn (mx s.a.y s.b.y) (mx t.a.y t.b.y) < mx (mn s.a.y s.b.y) (mn t.a.y t.b.y))
def ptS (p : Sp) : Pt := pt3 p.x p.y 1
def linP (s t : Sg) : Int × Pt × Pt := if lsS (highS s t) (lowS s t) = true then (0, pt0, pt0) else if lowS s t = highS s t then (1, ptS (lowS s t), pt0) else (2, ptS (lowS s t), ptS (highS s t))
def wayW (s t : Sg) : Int := crs s.a s.b t.a - crs s.a s.b t.b
def wayX (s t : Sg) : Int := t.a.x * wayW s t + crs s.a s.b t.a * (t.b.x - t.a.x)
def wayY (s t : Sg) : Int := t.a.y * wayW s t + crs s.a s.b t.a * (t.b.y - t.a.y)
def noWay (s t : Sg) : Bool := decide (0 < sg3 (crs s.a s.b t.a) * sg3 (crs s.a s.b t.b)) || decide (0 < sg3 (crs t.a t.b s.a) * sg3 (crs t.a t.b s.b))
def meetI (s t : Sg) : Int × Pt × Pt := if apart s t then (0, pt0, pt0) else if crs s.a s.b t.a = 0 ∧ crs s.a s.b t.b = 0 then linP s t else if noWay s t then (0, pt0, pt0) else (1, mkP (wayX s t) (wayY s t) (wayW s t), pt0)
end Go.Proofs.Ytgeecahbahgjbaa

/- Rings: their sides, what is not right in them, their areas. -/
namespace Go.Proofs.Ytgeecahbahgjbaa
open Go Go.RowKit

def sp0 : Sp := ⟨0, 0⟩
def gs (r : List Sp) (i : Nat) : Sp := r.getD i sp0
def segO (a b : Sp) : Sg := if lsS b a = true then ⟨b, a⟩ else ⟨a, b⟩
def nx1 (r : List Sp) (i : Nat) : Sp := gs r ((i + 1) % r.length)
def sd (r : List Sp) (i : Nat) : Sg := segO (gs r i) (nx1 r i)
def mkd (r : List Sp) (i k : Nat) : Int := (meetI (sd r i) (sd r k)).1
def nxt (n i k : Nat) : Prop := k + 1 = i ∨ (k = 0 ∧ i + 1 = n)
def rgDup (r : List Sp) : Prop := ∃ i k, k < i ∧ i < r.length ∧ gs r i = gs r k
def rgX (r : List Sp) : Prop := ∃ i k, k < i ∧ i < r.length ∧ (mkd r i k = 2 ∨ (mkd r i k = 1 ∧ ¬ nxt r.length i k))
def spsGood (r : List Sp) : Prop := ∀ p ∈ r, p.good = true
noncomputable def dec (p : Prop) : Bool := @decide p (Classical.propDecidable p)
noncomputable def rgF (r : List Sp) : Int := if r.length < 3 then 1 else if 12 < r.length then 2 else if dec (¬ spsGood r) = true then 3 else if dec (rgDup r) = true then 4 else if dec (rgX r) = true then 5 else 0
/-- Have the sides of two rings a point in common? -/
def rgsMeet (a b : List Sp) : Prop := ∃ i k, i < a.length ∧ k < b.length ∧ (meetI (sd a i) (sd b k)).1 ≠ 0
noncomputable def rgsM (a b : List Sp) : Bool := dec (rgsMeet a b)
end Go.Proofs.Ytgeecahbahgjbaa

/- Segments that have ends in common. -/
namespace Go.Proofs.Ytgeecahbahgjbaa
open Go Go.RowKit

def shr (s t : Sg) : Prop := s.a = t.a ∨ s.a = t.b ∨ s.b = t.a ∨ s.b = t.b
end Go.Proofs.Ytgeecahbahgjbaa

/- Areas of loops: fractions in lowest terms, added one by one. -/
namespace Go.Proofs.Ytgeecahbahgjbaa
open Go Go.RowKit

def addQ (p q : Int × Int) : Int × Int := (lowU (p.1 * q.2 + q.1 * p.2) (p.2 * q.2), lowD (p.1 * q.2 + q.1 * p.2) (p.2 * q.2))
def gp (l : List Pt) (i : Nat) : Pt := l.getD i pt0
/-- A fraction in lowest terms, its divisor above 0. -/
def redQ (p : Int × Int) : Prop := 0 < p.2 ∧ Int.gcd p.1 p.2 = 1
theorem redQ.low {p : Int × Int} (h : redQ p) : lowU p.1 p.2 = p.1 ∧ lowD p.1 p.2 = p.2 := low_uniq (by have := h.1; omega) h.1 h.2 rfl
/-- The same fraction by other numbers. -/
def eqQ (u d : Int) (p : Int × Int) : Prop := 0 < d ∧ u * p.2 = p.1 * d
theorem eqQ.low {u d : Int} {p : Int × Int} (h : eqQ u d p) (hr : redQ p) : lowU u d = p.1 ∧ lowD u d = p.2 := low_uniq (by have := h.1; omega) hr.1 hr.2 h.2.symm
theorem eqQ.step {u d c w : Int} {p : Int × Int} (h : eqQ u d p) (hr : redQ p) (hw : 0 < w) : eqQ (u * (w / gg d w) + c * (d / gg d w)) (d * (w / gg d w)) (addQ p (c, w)) := by
  obtain ⟨hd, he⟩ := h
  have hg := gg_pos (u := d) (d := w) (by omega)
  have k1 : w / gg d w * gg d w = w := Int.ediv_mul_cancel (gg_r d w)
  have m1 : d / gg d w * gg d w = d := Int.ediv_mul_cancel (gg_l d w)
  generalize gg d w = g at *
  generalize w / g = k at *
  generalize d / g = m at *
  have hk : 0 < k := by
    rcases Int.lt_trichotomy k 0 with h0 | h0 | h0
    · have := Int.mul_neg_of_neg_of_pos h0 hg; omega
    · subst h0; omega
    · exact h0
  refine ⟨Int.mul_pos hd hk, ?_⟩
  have hpw : p.2 * w ≠ 0 := Int.mul_ne_zero (by have := hr.1; omega) (by omega)
  have lc := low_cross (u := p.1 * w + c * p.2) hpw
  have lc : (addQ p (c, w)).1 * (p.2 * w) = (p.1 * w + c * p.2) * (addQ p (c, w)).2 := lc
  generalize (addQ p (c, w)).1 = U at *
  generalize (addQ p (c, w)).2 = D at *
  refine Int.eq_of_mul_eq_mul_right hpw ?_
  have e1 : U * (d * k) * (p.2 * w) = (U * (p.2 * w)) * (d * k) := by grind
  rw [e1, lc, ← k1, ← m1]
  have he2 : u * p.2 = p.1 * (m * g) := by rw [m1]; exact he
  have e2 : (u * k + c * m) * D * (p.2 * (k * g)) = (D * k * g) * (k * (u * p.2) + c * m * p.2) := by grind
  rw [e2, he2]
  grind
theorem eqQ.one : eqQ 0 1 (0, 1) := ⟨by decide, rfl⟩
end Go.Proofs.Ytgeecahbahgjbaa

/- Rings turned. -/
namespace Go.Proofs.Ytgeecahbahgjbaa
open Go Go.RowKit

/-- Rows of two numbers, as they are marked. -/
def m2 (k : Int) (j : Nat) : List AV := [.int .i64 (k + 2 * (j : Int)), .int .i64 (k + 2 * (j : Int) + 1)]
end Go.Proofs.Ytgeecahbahgjbaa

/- Points halved, squares of distances: the plain laws. -/
namespace Go.Proofs.Ytgeecahbahgjbaa
open Go Go.RowKit

theorem told_scale {u d u' d' : Int} (h : d ≠ 0) (h' : d' ≠ 0) (e : u * d' = u' * d) : told u d = told u' d' := by
  have c := @low_cross u' d' h'
  obtain ⟨e1, e2⟩ := low_uniq (u := u) (d := d) h (lowD_pos (u := u') h') (low_red h') (by
    have : lowU u' d' * d * d' = u * lowD u' d' * d' := by grind
    exact Int.eq_of_mul_eq_mul_right h' this)
  rw [told_fit h, told_fit h', e1, e2]
def dX (p q : Pt) : Int := p.x.v * q.w.v - q.x.v * p.w.v
def dY (p q : Pt) : Int := p.y.v * q.w.v - q.y.v * p.w.v
def dN (p q : Pt) : Int := dX p q * dX p q + dY p q * dY p q
def dD (p q : Pt) : Int := (p.w.v * q.w.v) * (p.w.v * q.w.v)
def d2F (p q : Pt) : Rt × Bool := if (p.good && q.good) = true then told (dN p q) (dD p q) else (Rt0, false)
theorem d2F_good {p q : Pt} (hp : p.good = true) (hq : q.good = true) : d2F p q = told (dN p q) (dD p q) := by unfold d2F; rw [hp, hq]; rfl
theorem dD_pos {p q : Pt} (hp : p.good = true) (hq : q.good = true) : 0 < dD p q := by
  have := Int.mul_pos (good_pos hp) (good_pos hq)
  exact Int.mul_pos this this
/-- What a middle is. -/
structure Mid (p q m : Pt) : Prop where
  gp : p.good = true
  gq : q.good = true
  gm : m.good = true
  hx : m.x.v * (2 * (p.w.v * q.w.v)) = (p.x.v * q.w.v + q.x.v * p.w.v) * m.w.v
  hy : m.y.v * (2 * (p.w.v * q.w.v)) = (p.y.v * q.w.v + q.y.v * p.w.v) * m.w.v
section
variable {p q m : Pt} (M : Mid p q m)
include M
theorem Mid.dx1 : dX p m * (2 * (p.w.v * q.w.v)) = dX p q * (m.w.v * p.w.v) := by have := M.hx; unfold dX; grind
theorem Mid.dy1 : dY p m * (2 * (p.w.v * q.w.v)) = dY p q * (m.w.v * p.w.v) := by have := M.hy; unfold dY; grind
theorem Mid.dx2 : dX m q * (2 * (p.w.v * q.w.v)) = dX p q * (m.w.v * q.w.v) := by have := M.hx; unfold dX; grind
theorem Mid.dy2 : dY m q * (2 * (p.w.v * q.w.v)) = dY p q * (m.w.v * q.w.v) := by have := M.hy; unfold dY; grind
theorem Mid.d1 : d2F p m = told (dN p q) (4 * dD p q) := by
  rw [d2F_good M.gp M.gm]
  have a := dD_pos M.gp M.gq
  have b := dD_pos M.gp M.gm
  have h1 := M.dx1
  have h2 := M.dy1
  refine told_scale (by omega) (by omega) ?_
  unfold dN dD; grind
theorem Mid.d2 : d2F m q = told (dN p q) (4 * dD p q) := by
  rw [d2F_good M.gm M.gq]
  have a := dD_pos M.gp M.gq
  have b := dD_pos M.gm M.gq
  have h1 := M.dx2
  have h2 := M.dy2
  refine told_scale (by omega) (by omega) ?_
  unfold dN dD; grind
end
end Go.Proofs.Ytgeecahbahgjbaa

/- Layers: faults, sides, depths, areas. -/
namespace Go.Proofs.Ytgeecahbahgjbaa
open Go Go.RowKit

def gr (L : List (List Sp)) (i : Nat) : List Sp := L.getD i []
def lyN : List (List Sp) → Nat
  | [] => 0
  | r :: R => r.length + lyN R
structure LyOk (L : List (List Sp)) : Prop where
  len : L.length ≤ 6
  spots : lyN L ≤ 20
  ok : ∀ r ∈ L, rgF r = 0
  apart : ∀ i k, i < L.length → k < L.length → k ≠ i → rgsM (gr L i) (gr L k) = false
/-! Where a point lies to a layer. -/
/-! Depths. -/
/-! Areas. -/
end Go.Proofs.Ytgeecahbahgjbaa

/- Whole numbers in decimal. -/
namespace Go.Proofs.Ytgeecahbahgjbaa
open Go Go.RowKit

/-- The decimal digits, the lowest first. -/
def decD (n : Nat) : List Nat := if n = 0 then [] else n % 10 :: decD (n / 10)
termination_by n
decreasing_by omega
theorem decD_zero : decD 0 = [] := by unfold decD; rfl
theorem decD_pos {n : Nat} (h : n ≠ 0) : decD n = n % 10 :: decD (n / 10) := by rw [decD]; rw [if_neg h]
theorem decD_lt (n : Nat) : ∀ d ∈ decD n, d < 10 := by
  induction n using Nat.strongRecOn with
  | ind n ih =>
    intro d hd
    rcases Nat.eq_zero_or_pos n with h | h
    · subst h; rw [decD_zero] at hd; simp at hd
    · rw [decD_pos (by omega)] at hd
      rcases List.mem_cons.1 hd with rfl | hd
      · omega
      · exact ih (n / 10) (by omega) d hd
def valD : List Nat → Nat
  | [] => 0
  | d :: r => d + 10 * valD r
theorem valD_decD (n : Nat) : valD (decD n) = n := by
  induction n using Nat.strongRecOn with
  | ind n ih =>
    rcases Nat.eq_zero_or_pos n with h | h
    · subst h; rw [decD_zero]; rfl
    · rw [decD_pos (by omega), valD, ih (n / 10) (by omega)]; omega
theorem decD_len {n k : Nat} (h : n < 10 ^ k) : (decD n).length ≤ k := by
  induction k generalizing n with
  | zero => have : n = 0 := by simpa using h
            subst this; rw [decD_zero]; simp
  | succ k ih =>
    rcases Nat.eq_zero_or_pos n with h0 | h0
    · subst h0; rw [decD_zero]; simp
    · rw [decD_pos (by omega), List.length_cons]
      have := ih (n := n / 10) (by rw [Nat.pow_succ] at h; omega)
      omega
/-- The bytes of a number's digits, the lowest first. -/
def decR (n : Nat) : List Int := (decD n).map fun (d : Nat) => 48 + (d : Int)
theorem decR_zero : decR 0 = [] := by unfold decR; rw [decD_zero]; rfl
theorem decR_pos {n : Nat} (h : n ≠ 0) : decR n = (48 + ((n % 10 : Nat) : Int)) :: decR (n / 10) := by unfold decR; rw [decD_pos h]; rfl
/-- A number's text, as bytes. -/
def decZ (n : Nat) : List Int := if n = 0 then [48] else decR n
def decB (n : Int) : List Int := (decZ n.natAbs ++ if n < 0 then [45] else []).reverse
/-- Bytes read as digits, the highest first. -/
def rdV : List Int → Nat → Nat
  | [], v => v
  | c :: r, v => rdV r (v * 10 + (c - 48).toNat)
def isDg (c : Int) : Bool := decide (48 ≤ c) && decide (c ≤ 57)
theorem rdV_app : ∀ (l m : List Int) (v : Nat), rdV (l ++ m) v = rdV m (rdV l v)
  | [], _, _ => rfl
  | _ :: r, m, v => by simp only [List.cons_append, rdV]; exact rdV_app r m _
theorem rdV_rev : ∀ (l : List Nat), (∀ d ∈ l, d < 10) → rdV ((l.map fun (d : Nat) => 48 + (d : Int)).reverse) 0 = valD l
  | [], _ => rfl
  | d :: r, h => by
    have := rdV_rev r fun x hx => h x (by simp [hx])
    rw [List.map_cons, List.reverse_cons, rdV_app, this, valD]
    simp only [rdV]
    have : (48 + (d : Int) - 48).toNat = d := by omega
    rw [this]; omega
theorem decZ_len (n : Nat) : decZ n ≠ [] := by
  unfold decZ; split
  · simp
  · rename_i h; rw [decR_pos h]; simp
theorem decZ_dg (n : Nat) : ∀ c ∈ decZ n, isDg c = true := by
  unfold decZ; split
  · intro c hc; simp at hc; subst hc; rfl
  · intro c hc
    obtain ⟨d, hd, rfl⟩ := List.mem_map.1 hc
    have := decD_lt n d hd
    simp [isDg]; omega
theorem rdV_decZ (n : Nat) : rdV (decZ n).reverse 0 = n := by
  unfold decZ; split
  · rename_i h; subst h; rfl
  · unfold decR; rw [rdV_rev _ (decD_lt n), valD_decD]
theorem decB_neg {n : Int} (h : n < 0) : decB n = 45 :: (decZ n.natAbs).reverse := by unfold decB; rw [if_pos h]; simp
theorem decB_pos {n : Int} (h : ¬ n < 0) : decB n = (decZ n.natAbs).reverse := by unfold decB; rw [if_neg h]; simp
/-- What is read of a text: the sign apart, its digits; no number where it has none or too many. -/
def rdT (l : List Int) : List Int := match l with | 45 :: r => r | _ => l
def rdS (l : List Int) : Bool := match l with | 45 :: _ => true | _ => false
def rdN (l : List Int) : Int := if rdS l = true then -((rdV (rdT l) 0 : Nat) : Int) else ((rdV (rdT l) 0 : Nat) : Int)
def rdOk (l : List Int) : Bool := decide (rdT l ≠ []) && (decide (l.length ≤ 100) && (rdT l).all isDg)
def rdI (l : List Int) : Int := if rdOk l = true then rdN l else 0
def rdB (l : List Int) : Bool := rdOk l && decide (decB (rdN l) = l)
theorem head_dg {l : List Int} (h : ∀ c ∈ l, isDg c = true) : rdT l = l ∧ rdS l = false := by
  unfold rdT rdS
  constructor
  · split
    · rename_i r; have := h 45 (by simp); simp [isDg] at this
    · rfl
  · split
    · rename_i r; have := h 45 (by simp); simp [isDg] at this
    · rfl
theorem rdT_decB (n : Int) : rdT (decB n) = (decZ n.natAbs).reverse ∧ rdS (decB n) = decide (n < 0) := by
  by_cases h : n < 0
  · rw [decB_neg h]; exact ⟨rfl, by simp [rdS, h]⟩
  · rw [decB_pos h]
    have := head_dg (l := (decZ n.natAbs).reverse) fun c hc => decZ_dg _ c (by simpa using hc)
    rw [this.1, this.2]; exact ⟨rfl, by simp [h]⟩
theorem rdN_decB (n : Int) : rdN (decB n) = n := by
  obtain ⟨h1, h2⟩ := rdT_decB n
  unfold rdN; rw [h1, h2, rdV_decZ]
  by_cases h : n < 0
  · rw [if_pos (by simpa using h)]; omega
  · rw [if_neg (by simpa using h)]; omega
theorem decB_len {n : Int} {k : Nat} (hk : 0 < k) (h : n.natAbs < 10 ^ k) : (decB n).length ≤ k + 1 := by
  have h1 : (decZ n.natAbs).length ≤ k := by
    unfold decZ; split
    · simp; omega
    · unfold decR; rw [List.length_map]; exact decD_len h
  by_cases hn : n < 0
  · rw [decB_neg hn]; simp; exact h1
  · rw [decB_pos hn]; simp; omega
theorem rdB_decB {n : Int} (h : n.natAbs < 10 ^ 99) : rdB (decB n) = true ∧ rdI (decB n) = n := by
  have hl := decB_len (n := n) (k := 99) (by omega) h
  obtain ⟨h1, h2⟩ := rdT_decB n
  have hok : rdOk (decB n) = true := by
    unfold rdOk
    rw [h1]
    have e1 : decide ((decZ n.natAbs).reverse ≠ []) = true := by simp; exact decZ_len _
    have e2 : decide ((decB n).length ≤ 100) = true := decide_eq_true hl
    have e3 : (decZ n.natAbs).reverse.all isDg = true := by rw [List.all_eq_true]; intro c hc; exact decZ_dg _ c (by simpa using hc)
    rw [e1, e2, e3]; rfl
  unfold rdB rdI
  rw [hok, rdN_decB]; simp
end Go.Proofs.Ytgeecahbahgjbaa

/- Strings by their bytes. -/
namespace Go.Proofs.Ytgeecahbahgjbaa
open Go Go.RowKit

def Byt (l : List Int) : Prop := ∀ c ∈ l, 0 ≤ c ∧ c < 256
theorem Byt.app {l m : List Int} (h : Byt l) (k : Byt m) : Byt (l ++ m) := fun c hc => (List.mem_append.1 hc).elim (h c) (k c)
theorem Byt.rev {l : List Int} (h : Byt l) : Byt l.reverse := fun c hc => h c (by simpa using hc)
theorem Byt.tail {c : Int} {l : List Int} (h : Byt (c :: l)) : Byt l := fun x hx => h x (by simp [hx])
theorem Byt.drop {l : List Int} (h : Byt l) (k : Nat) : Byt (l.drop k) := fun x hx => h x (List.mem_of_mem_drop hx)
theorem Byt.take {l : List Int} (h : Byt l) (k : Nat) : Byt (l.take k) := fun x hx => h x (List.mem_of_mem_take hx)
theorem decZ_byt (n : Nat) : Byt (decZ n) := fun c hc => by have := decZ_dg n c hc; simp [isDg] at this; omega
theorem decB_byt (n : Int) : Byt (decB n) := by
  unfold decB
  refine Byt.rev (Byt.app (decZ_byt _) ?_)
  split
  · intro c hc; simp at hc; omega
  · intro c hc; simp at hc
theorem sn_app (l m : List Int) : strOfNums l ++ strOfNums m = strOfNums (l ++ m) := by
  apply ByteArray.ext
  simp [strOfNums]
theorem sn_get {l : List Int} (h : Byt l) {i : Nat} (hi : i < l.length) : ∃ c, (strOfNums l)[i]? = some c ∧ ((c.toNat : Nat) : Int) = gt l i := by
  have hs : i < (strOfNums l).size := by rw [strOfNums_size]; exact hi
  refine ⟨(strOfNums l)[i]'hs, getElem?_pos (strOfNums l) i hs, ?_⟩
  have e : (strOfNums l)[i]'hs = UInt8.ofNat (l[i]'hi).toNat := by
    show (strOfNums l).data[i] = _
    simp [strOfNums]
  have hb := h (l[i]'hi) (List.getElem_mem hi)
  have g : gt l i = l[i]'hi := by unfold gt; rw [List.getElem?_eq_getElem hi]; rfl
  rw [e, g]
  simp only [UInt8.toNat_ofNat']
  omega
theorem sn_ext (l : List Int) {a b : Nat} : (strOfNums l).extract a b = strOfNums ((l.take b).drop a) := by
  apply ByteArray.ext
  simp [strOfNums, ByteArray.data_extract, List.map_drop, List.map_take, List.drop_take]
theorem sn_inj {l m : List Int} (hl : Byt l) (hm : Byt m) (h : strOfNums l = strOfNums m) : l = m := by
  have hlen : l.length = m.length := by rw [← strOfNums_size, h, strOfNums_size]
  apply List.ext_getElem hlen
  intro i h1 h2
  obtain ⟨c, e1, g1⟩ := sn_get hl h1
  obtain ⟨d, e2, g2⟩ := sn_get hm h2
  rw [h, e2] at e1
  simp only [Option.some.injEq] at e1; subst e1
  have k1 : gt l i = l[i] := by unfold gt; rw [List.getElem?_eq_getElem h1]; rfl
  have k2 : gt m i = m[i] := by unfold gt; rw [List.getElem?_eq_getElem h2]; rfl
  rw [← k1, ← k2, ← g1, ← g2]
end Go.Proofs.Ytgeecahbahgjbaa

/- Rows of numbers turned; what texts need. -/
namespace Go.Proofs.Ytgeecahbahgjbaa
open Go Go.RowKit

def revZ (l : List Int) (i : Nat) : List Int := (List.range l.length).map fun p => if p < i ∨ l.length - i ≤ p then gt l (l.length - 1 - p) else gt l p
theorem revZ_len (l : List Int) (i : Nat) : (revZ l i).length = l.length := by simp [revZ]
theorem gtz_get {l : List Int} {i : Nat} (h : i < l.length) : l[i]? = some (gt l i) := by unfold gt; rw [List.getElem?_eq_getElem h]; rfl
theorem revZ_get {l : List Int} {i p : Nat} (h : p < l.length) : (revZ l i)[p]? = some (if p < i ∨ l.length - i ≤ p then gt l (l.length - 1 - p) else gt l p) := by simp [revZ, h]
theorem gt_ext {l m : List Int} (h : l.length = m.length) (he : ∀ i, i < l.length → gt l i = gt m i) : l = m := by
  apply List.ext_getElem h
  intro i h1 h2
  have := he i h1
  unfold gt at this
  rw [List.getElem?_eq_getElem h1, List.getElem?_eq_getElem h2] at this
  exact this
theorem gt_of_get {l : List Int} {i : Nat} {x : Int} (h : l[i]? = some x) : gt l i = x := by unfold gt; rw [h]; rfl
theorem revZ_zero (l : List Int) : revZ l 0 = l := by
  refine gt_ext (revZ_len l 0) fun i hi => ?_
  rw [revZ_len] at hi
  rw [gt_of_get (revZ_get hi), if_neg (by omega)]
theorem revZ_lo {l : List Int} {i : Nat} (h : 2 * i + 1 < l.length) : gt (revZ l i) i = gt l i := by rw [gt_of_get (revZ_get (by omega)), if_neg (by omega)]
theorem revZ_hi {l : List Int} {i : Nat} (h : 2 * i + 1 < l.length) : gt (revZ l i) (l.length - 1 - i) = gt l (l.length - 1 - i) := by rw [gt_of_get (revZ_get (by omega)), if_neg (by omega)]
theorem revZ_step {l : List Int} {i : Nat} (h : 2 * i + 1 < l.length) : ((revZ l i).set i (gt l (l.length - 1 - i))).set (l.length - 1 - i) (gt l i) = revZ l (i + 1) := by
  refine gt_ext (by simp [revZ_len]) fun p hp => ?_
  simp only [List.length_set, revZ_len] at hp
  refine gt_of_get ?_
  rw [List.getElem?_set, List.getElem?_set, revZ_get hp]
  simp only [List.length_set, revZ_len]
  rw [gt_of_get (revZ_get hp)]
  by_cases h1 : l.length - 1 - i = p
  · subst h1
    rw [if_pos rfl, if_pos hp, if_pos (by omega)]
    congr 2; omega
  · rw [if_neg h1]
    by_cases h2 : i = p
    · subst h2
      rw [if_pos rfl, if_pos hp, if_pos (by omega)]
    · rw [if_neg h2]
      congr 1
      by_cases h3 : p < i ∨ l.length - i ≤ p
      · rw [if_pos h3, if_pos (by omega)]
      · rw [if_neg h3, if_neg (by omega)]
theorem revZ_end {l : List Int} {i : Nat} (h : l.length ≤ 2 * i + 1) : revZ l i = l.reverse := by
  refine gt_ext (by rw [revZ_len, List.length_reverse]) fun p hp => ?_
  rw [revZ_len] at hp
  rw [gt_of_get (revZ_get hp)]
  have e : gt l.reverse p = gt l (l.length - 1 - p) := by
    refine gt_of_get ?_
    rw [List.getElem?_reverse hp]; exact gtz_get (by omega)
  rw [e]
  split
  · rfl
  · congr 1; omega
/-- One byte's place. -/
def ixB (l : List Int) (c : Int) : Int := Lib.indexByte (strOfNums l).data.toList c.toNat.toUInt8
theorem FE.indexByte {P : Program} {f : FuncId} (h : Bodyless P f Extern.BytealgIndexByte.indexByte) (l : List Int) (c : Int) : FE P f [.str (strOfNums l), .int .u8 c] (.int .i64 (ixB l c)) := by
  intro w β b vs hv
  obtain ⟨fn, hf, h1, h2, h3, h4⟩ := h.ex
  obtain ⟨u, v, rfl, e1, e2⟩ := vrl2 hv
  obtain rfl : u = .string (strOfNums l) := e1
  obtain rfl : v = .int .u8 c := e2
  have hr := run_callFunc_extern hf h1 h2 h3 h4 #[.string (strOfNums l), .int .u8 c] w
  rw [Lib.run_indexByteString] at hr
  exact ⟨_, hr, rfl⟩
theorem ixB_cons {a : Int} {l : List Int} {c : Int} (ha : 0 ≤ a ∧ a < 256) (hc : 0 ≤ c ∧ c < 256) : ixB (a :: l) c = if a = c then 0 else if ixB l c = -1 then -1 else ixB l c + 1 := by
  unfold ixB
  rw [strOfNums_data, strOfNums_data, List.map_cons]
  have key : ∀ (b : UInt8) (r : List UInt8) (d : UInt8), Lib.indexByte (b :: r) d = if b == d then 0 else if Lib.indexByte r d == -1 then -1 else Lib.indexByte r d + 1 := fun _ _ _ => rfl
  rw [key]
  have e : (UInt8.ofNat a.toNat == c.toNat.toUInt8) = decide (a = c) := by
    rw [Bool.eq_iff_iff, beq_iff_eq, decide_eq_true_eq]
    constructor
    · intro h
      have := congrArg UInt8.toNat h
      simp at this
      omega
    · intro h; subst h; rfl
  rw [e]
  by_cases h : a = c
  · simp [h]
  · simp [h]
theorem ixB_nil (c : Int) : ixB [] c = -1 := rfl
theorem ixB_no {c : Int} (hc : 0 ≤ c ∧ c < 256) : ∀ {l : List Int}, Byt l → (∀ x ∈ l, x ≠ c) → ixB l c = -1
  | [], _, _ => rfl
  | a :: l, h, hn => by
    rw [ixB_cons (h a (by simp)) hc, if_neg (hn a (by simp)), ixB_no hc h.tail fun x hx => hn x (by simp [hx])]; rfl
theorem ixB_app {c : Int} (hc : 0 ≤ c ∧ c < 256) : ∀ {l m : List Int}, Byt l → (∀ x ∈ l, x ≠ c) → ixB (l ++ c :: m) c = l.length
  | [], m, _, _ => by rw [List.nil_append, ixB_cons hc hc, if_pos rfl]; rfl
  | a :: l, m, h, hn => by
    rw [List.cons_append, ixB_cons (h a (by simp)) hc, if_neg (hn a (by simp)), ixB_app hc h.tail fun x hx => hn x (by simp [hx])]
    rw [if_neg (by omega), List.length_cons]; omega
theorem ixB_b {c : Int} (hc : 0 ≤ c ∧ c < 256) : ∀ {l : List Int}, Byt l → -1 ≤ ixB l c ∧ ixB l c < l.length
  | [], _ => by rw [ixB_nil]; simp
  | a :: l, h => by
    have := ixB_b hc h.tail
    rw [ixB_cons (h a (by simp)) hc, List.length_cons]
    split
    · omega
    · split <;> omega
end Go.Proofs.Ytgeecahbahgjbaa

/- What is read of a text: bounds, cases. -/
namespace Go.Proofs.Ytgeecahbahgjbaa
open Go Go.RowKit

theorem sn_beq {a b : List Int} (ha : Byt a) (hb : Byt b) : ((strOfNums a).toList == (strOfNums b).toList) = decide (a = b) := by
  rw [Lib.toList_data, Lib.toList_data, Bool.eq_iff_iff, beq_iff_eq, decide_eq_true_eq]
  constructor
  · intro h
    exact sn_inj ha hb (ByteArray.ext (Array.ext' h))
  · intro h; rw [h]
theorem head3 (L : List Int) : (L = [] ∧ rdT L = L ∧ rdS L = false) ∨ (∃ c r, L = c :: r ∧ c ≠ 45 ∧ rdT L = L ∧ rdS L = false) ∨ (∃ r, L = 45 :: r ∧ rdT L = r ∧ rdS L = true) := by
  rcases L with _ | ⟨c, r⟩
  · exact .inl ⟨rfl, rfl, rfl⟩
  · by_cases h : c = 45
    · subst h; exact .inr (.inr ⟨r, rfl, rfl, rfl⟩)
    · refine .inr (.inl ⟨c, r, rfl, h, ?_, ?_⟩)
      · unfold rdT; split
        · rename_i e; simp only [List.cons.injEq] at e; exact absurd e.1 h
        · rfl
      · unfold rdS; split
        · rename_i e; simp only [List.cons.injEq] at e; exact absurd e.1 h
        · rfl
theorem rdT_len (L : List Int) : (rdT L).length ≤ L.length := by
  rcases head3 L with ⟨_, h, _⟩ | ⟨_, _, _, _, h, _⟩ | ⟨r, e, h, _⟩
  · rw [h]; exact Nat.le_refl _
  · rw [h]; exact Nat.le_refl _
  · rw [h, e]; simp
theorem rdT_byt {L : List Int} (hb : Byt L) : Byt (rdT L) := by
  rcases head3 L with ⟨_, h, _⟩ | ⟨_, _, _, _, h, _⟩ | ⟨r, e, h, _⟩
  · rw [h]; exact hb
  · rw [h]; exact hb
  · rw [h]; rw [e] at hb; exact hb.tail
theorem rdT_neg {L : List Int} (h : rdS L = true) : L = 45 :: rdT L := by
  rcases head3 L with ⟨_, _, h2⟩ | ⟨_, _, _, _, _, h2⟩ | ⟨r, e, h1, _⟩
  · rw [h] at h2; simp at h2
  · rw [h] at h2; simp at h2
  · rw [h1, e]
theorem rdT_pos {L : List Int} (h : ¬ rdS L = true) : rdT L = L := by
  rcases head3 L with ⟨_, h2, _⟩ | ⟨_, _, _, _, h2, _⟩ | ⟨r, e, _, h1⟩
  · exact h2
  · exact h2
  · exact absurd h1 h
theorem isDg_iff {c : Int} : isDg c = true ↔ 48 ≤ c ∧ c ≤ 57 := by simp [isDg]
theorem rdV_step {T : List Int} {i : Nat} (hi : i < T.length) : rdV (T.take (i + 1)) 0 = rdV (T.take i) 0 * 10 + (gt T i - 48).toNat := by
  rw [List.take_add_one, gtz_get hi, rdV_app]; rfl
theorem rdV_lt : ∀ (l : List Int) (v : Nat), (∀ c ∈ l, isDg c = true) → rdV l v < (v + 1) * 10 ^ l.length
  | [], v, _ => by simp [rdV]
  | c :: r, v, h => by
    have hc := isDg_iff.1 (h c (by simp))
    have := rdV_lt r (v * 10 + (c - 48).toNat) fun x hx => h x (by simp [hx])
    simp only [rdV, List.length_cons]
    refine Nat.lt_of_lt_of_le this ?_
    rw [Nat.pow_succ]
    have h2 : v * 10 + (c - 48).toNat + 1 ≤ (v + 1) * 10 := by omega
    calc (v * 10 + (c - 48).toNat + 1) * 10 ^ r.length ≤ ((v + 1) * 10) * 10 ^ r.length := Nat.mul_le_mul_right _ h2
      _ = (v + 1) * (10 ^ r.length * 10) := by rw [Nat.mul_assoc, Nat.mul_comm 10]
theorem rdV_bg {l : List Int} (h : ∀ c ∈ l, isDg c = true) (hl : l.length ≤ 100) : Bg 6 ((rdV l 0 : Nat) : Int) := by
  have h1 := rdV_lt l 0 h
  have h2 : (10 : Nat) ^ l.length ≤ 10 ^ 100 := Nat.pow_le_pow_right (by omega) hl
  have h3 : (10 : Nat) ^ 100 ≤ 18446744073709551616 ^ 6 := by decide
  unfold Bg
  rw [Int.natAbs_natCast]
  omega
theorem take_dg {T : List Int} {i : Nat} (hi : i < T.length) (h : ∀ c ∈ T.take i, isDg c = true) (hc : isDg (gt T i) = true) : ∀ c ∈ T.take (i + 1), isDg c = true := by
  intro c hm
  rw [List.take_add_one, gtz_get hi] at hm
  rcases List.mem_append.1 hm with h1 | h1
  · exact h c h1
  · simp at h1; rw [h1]; exact hc
theorem rd_no {L : List Int} (h : rdOk L = false) : rdI L = 0 ∧ rdB L = false := by unfold rdI rdB; rw [h]; exact ⟨rfl, rfl⟩
theorem rd_bad {L : List Int} {i : Nat} (hi : i < (rdT L).length) (hc : isDg (gt (rdT L) i) = false) : rdOk L = false := by
  unfold rdOk
  have : (rdT L).all isDg = false := by
    rw [List.all_eq_false]
    exact ⟨gt (rdT L) i, List.mem_of_getElem? (gtz_get hi), by rw [hc]; simp⟩
  rw [this]; simp
theorem rd_good {L : List Int} (h0 : rdT L ≠ []) (h1 : L.length ≤ 100) (h : ∀ c ∈ rdT L, isDg c = true) : rdOk L = true := by
  unfold rdOk
  rw [decide_eq_true h0, decide_eq_true h1, List.all_eq_true.2 h]; rfl
theorem rd_none {L : List Int} (h : rdT L = [] ∨ 100 < L.length) : rdOk L = false := by
  unfold rdOk
  rcases h with h | h
  · rw [h]; rfl
  · rw [decide_eq_false (show ¬ L.length ≤ 100 by omega)]; simp
theorem rd_yes {L : List Int} (h : rdOk L = true) : rdI L = rdN L ∧ rdB L = decide (decB (rdN L) = L) := by unfold rdI rdB; rw [h]; exact ⟨rfl, rfl⟩
theorem rdN_sg (L : List Int) : sg (rdS L) (val 18446744073709551616 (mag ((rdV (rdT L) 0 : Nat) : Int))) = rdN L := by
  rw [mag_val, Int.natAbs_natCast]; rfl
theorem rdN_bg {L : List Int} (h : Bg 6 ((rdV (rdT L) 0 : Nat) : Int)) : Bg 6 (rdN L) := by
  unfold rdN; split
  · exact h.neg
  · exact h
theorem tup0_weak {w : World} {β : Nat → Option Loc} {b : Nat → Bool} {x : AV} {v : Value} (h : VR w β b (.tup [.agg [.bool false, .nsl], x]) v) : VR w β b (.tup [numI 0, x]) v := by
  obtain ⟨us, rfl, u, r, e, h1, h2⟩ := h
  exact ⟨us, rfl, u, r, e, num0_weak h1, h2⟩
theorem nslN {w : World} {β : Nat → Option Loc} {b : Nat → Bool} {vss : List (List Value)} (h : VRLL w β b [[.bool false, .nsl]] vss) : VRLL w β b [[.bool (decide ((0 : Int) < 0)), Wd .u64 (mag 0)]] vss := by
  obtain ⟨v, r, e, ⟨v1, r1, e1, h1, ⟨v2, r2, e2, h2, h3⟩⟩, h4⟩ := h
  exact ⟨v, r, e, ⟨v1, r1, e1, h1, ⟨v2, r2, e2, (by rw [mag_zero]; exact nsl_Wd .u64 h2), h3⟩⟩, h4⟩
end Go.Proofs.Ytgeecahbahgjbaa

/- Texts cut at a byte. -/
namespace Go.Proofs.Ytgeecahbahgjbaa
open Go Go.RowKit

def ctF (L : List Int) (c : Int) : Bool := decide (0 ≤ ixB L c)
def ctA (L : List Int) (c : Int) : List Int := if 0 ≤ ixB L c then L.take (ixB L c).toNat else L
def ctB (L : List Int) (c : Int) : List Int := if 0 ≤ ixB L c then L.drop ((ixB L c).toNat + 1) else []
theorem ctF_at {c : Int} (hc : 0 ≤ c ∧ c < 256) {A B : List Int} (hA : Byt A) (hn : ∀ x ∈ A, x ≠ c) : ctF (A ++ c :: B) c = true ∧ ctA (A ++ c :: B) c = A ∧ ctB (A ++ c :: B) c = B := by
  unfold ctF ctA ctB
  rw [ixB_app hc hA hn, if_pos (by omega), if_pos (by omega)]
  refine ⟨by simp, by simp, ?_⟩
  rw [show ((A.length : Int)).toNat = A.length from rfl, List.drop_append]
  simp
theorem ctF_no {c : Int} (hc : 0 ≤ c ∧ c < 256) {L : List Int} (hb : Byt L) (hn : ∀ x ∈ L, x ≠ c) : ctF L c = false ∧ ctA L c = L ∧ ctB L c = [] := by
  unfold ctF ctA ctB
  rw [ixB_no hc hb hn, if_neg (by omega), if_neg (by omega)]
  exact ⟨rfl, rfl, rfl⟩
theorem ctA_byt {L : List Int} (h : Byt L) (c : Int) : Byt (ctA L c) := by unfold ctA; split; exact h.take _; exact h
theorem ctB_byt {L : List Int} (h : Byt L) (c : Int) : Byt (ctB L c) := by
  unfold ctB; split
  · exact h.drop _
  · intro x hx; simp at hx
theorem ctA_len (L : List Int) (c : Int) : (ctA L c).length ≤ L.length := by unfold ctA; split <;> simp; omega
theorem ctB_len (L : List Int) (c : Int) : (ctB L c).length ≤ L.length := by unfold ctB; split <;> simp
/-- A number of four words, read of a text. -/
def rwV (L : List Int) : W4 := if rdB L = true then W4z (rdI L) else ⟨0, 0, 0, 0⟩
def rwB (L : List Int) : Bool := rdB L && fits (rdI L)
theorem rdOk_dg {L : List Int} (h : rdOk L = true) : (∀ c ∈ rdT L, isDg c = true) ∧ L.length ≤ 100 := by
  unfold rdOk at h
  simp only [Bool.and_eq_true, decide_eq_true_eq] at h
  exact ⟨fun c hc => List.all_eq_true.1 h.2.2 c hc, h.2.1⟩
theorem rdI_bg (L : List Int) : Bg 6 (rdI L) := by
  unfold rdI; split
  · rename_i h
    obtain ⟨h1, h2⟩ := rdOk_dg h
    exact rdN_bg (rdV_bg h1 (by have := rdT_len L; omega))
  · exact Bg.zero.le (by omega)
end Go.Proofs.Ytgeecahbahgjbaa

/- Ratios and points as texts. -/
namespace Go.Proofs.Ytgeecahbahgjbaa
open Go Go.RowKit

theorem decB_chr {n c : Int} (h : c ∈ decB n) : c = 45 ∨ (48 ≤ c ∧ c ≤ 57) := by
  unfold decB at h
  rw [List.mem_reverse] at h
  rcases List.mem_append.1 h with h | h
  · exact .inr (isDg_iff.1 (decZ_dg _ c h))
  · split at h
    · simp at h; exact .inl h
    · simp at h
theorem decB_no47 (n : Int) : ∀ x ∈ decB n, x ≠ 47 := fun x hx => by have := decB_chr hx; omega
theorem decB_no44 (n : Int) : ∀ x ∈ decB n, x ≠ 44 := fun x hx => by have := decB_chr hx; omega
theorem rw_dec {x : W4} (h : x.ok) : rwB (decB x.v) = true ∧ rwV (decB x.v) = x := by
  have hb := W4.bg h
  have hlt : x.v.natAbs < 10 ^ 99 := by
    unfold Bg at hb
    have : (18446744073709551616 : Nat) ^ 4 ≤ 10 ^ 99 := by decide
    omega
  obtain ⟨h1, h2⟩ := rdB_decB hlt
  unfold rwB rwV
  rw [h1, h2, W4.fits h, if_pos rfl, W4z_of h]
  exact ⟨rfl, rfl⟩
theorem rwV_ok (L : List Int) : (rwV L).ok := by
  unfold rwV; split
  · exact W4z_ok _
  · unfold W4.ok U64; simp
theorem ne47 : (0 : Int) ≤ 47 ∧ (47 : Int) < 256 := by omega
theorem ne44 : (0 : Int) ≤ 44 ∧ (44 : Int) < 256 := by omega
theorem byt_cons {c : Int} (hc : 0 ≤ c ∧ c < 256) {l : List Int} (h : Byt l) : Byt (c :: l) := fun x hx => by
  rcases List.mem_cons.1 hx with rfl | hx
  · exact hc
  · exact h x hx
def ptT (p : Pt) : List Int := if p.good = true then (decB p.x.v ++ 44 :: decB p.y.v) ++ (if p.w = W4z 1 then [] else 47 :: decB p.w.v) else []
def rpC (L : List Int) : Pt := ⟨rwV (ctA (ctA L 47) 44), rwV (ctB (ctA L 47) 44), if ctF L 47 = true then rwV (ctB L 47) else W4z 1⟩
def rpB (L : List Int) : Bool := rwB (ctA (ctA L 47) 44) && (rwB (ctB (ctA L 47) 44) && ((if ctF L 47 = true then rwB (ctB L 47) else true) && decide (ptT (rpC L) = L)))
def rpV (L : List Int) : Pt := if rpB L = true then rpC L else ⟨⟨0, 0, 0, 0⟩, ⟨0, 0, 0, 0⟩, ⟨0, 0, 0, 0⟩⟩
theorem rpC_ok (L : List Int) : (rpC L).ok := ⟨rwV_ok _, rwV_ok _, by unfold rpC; simp only []; split; exact rwV_ok _; exact W4z_ok _⟩
theorem ptT_byt (p : Pt) : Byt (ptT p) := by
  unfold ptT; split
  · refine ((decB_byt _).app (byt_cons ne44 (decB_byt _))).app ?_
    split
    · intro x hx; simp at hx
    · exact byt_cons ne47 (decB_byt _)
  · intro x hx; simp at hx
theorem pt_read {p : Pt} (h : p.ok) (hg : p.good = true) : rpB (ptT p) = true ∧ rpV (ptT p) = p := by
  obtain ⟨hx, hy, hw⟩ := h
  obtain ⟨x1, x2⟩ := rw_dec hx
  obtain ⟨y1, y2⟩ := rw_dec hy
  obtain ⟨w1, w2⟩ := rw_dec hw
  obtain ⟨a1, a2, a3⟩ := ctF_at ne44 (B := decB p.y.v) (decB_byt p.x.v) (decB_no44 _)
  have bA : Byt (decB p.x.v ++ 44 :: decB p.y.v) := (decB_byt _).app (byt_cons ne44 (decB_byt _))
  have nA : ∀ c ∈ decB p.x.v ++ 44 :: decB p.y.v, c ≠ 47 := fun c hc => by
    rcases List.mem_append.1 hc with h | h
    · exact decB_no47 _ c h
    · rcases List.mem_cons.1 h with rfl | h
      · omega
      · exact decB_no47 _ c h
  have key : rpC (ptT p) = p ∧ rwB (ctA (ctA (ptT p) 47) 44) = true ∧ rwB (ctB (ctA (ptT p) 47) 44) = true ∧ (if ctF (ptT p) 47 = true then rwB (ctB (ptT p) 47) else true) = true := by
    by_cases hd : p.w = W4z 1
    · have e : ptT p = decB p.x.v ++ 44 :: decB p.y.v := by unfold ptT; rw [if_pos hg, if_pos hd, List.append_nil]
      obtain ⟨c1, c2, c3⟩ := ctF_no ne47 bA nA
      rw [e]; unfold rpC
      rw [c1, c2, a2, a3, x1, x2, y1, y2]
      refine ⟨?_, rfl, rfl, rfl⟩
      simp only [Bool.false_eq_true, if_false]
      rw [← hd]
    · have e : ptT p = (decB p.x.v ++ 44 :: decB p.y.v) ++ 47 :: decB p.w.v := by unfold ptT; rw [if_pos hg, if_neg hd]
      obtain ⟨c1, c2, c3⟩ := ctF_at ne47 (B := decB p.w.v) bA nA
      rw [e]; unfold rpC
      rw [c1, c2, c3, a2, a3, x1, x2, y1, y2, w1, w2]
      exact ⟨rfl, rfl, rfl, rfl⟩
  obtain ⟨k1, k2, k3, k4⟩ := key
  have hB : rpB (ptT p) = true := by unfold rpB; rw [k1, k2, k3, k4]; simp
  exact ⟨hB, by unfold rpV; rw [if_pos hB, k1]⟩
theorem pt_bad {p : Pt} (hg : p.good = false) : rpB (ptT p) = false := by
  have e : ptT p = [] := by unfold ptT; rw [hg]; rfl
  rw [e]; rfl
theorem rp_text {L : List Int} (h : rpB L = true) : ptT (rpV L) = L := by
  unfold rpV; rw [if_pos h]
  unfold rpB at h
  simp only [Bool.and_eq_true, decide_eq_true_eq] at h
  exact h.2.2.2
end Go.Proofs.Ytgeecahbahgjbaa

/- A row of words divided by ten. -/
namespace Go.Proofs.Ytgeecahbahgjbaa
open Go Go.RowKit

theorem dropg {l : List Int} {i : Nat} (h : i < l.length) : l.drop i = gt l i :: l.drop (i + 1) := by
  rw [List.drop_eq_getElem_cons h]; congr 1
  unfold gt; rw [List.getElem?_eq_getElem h]; rfl
theorem ten_step {W Q : List Int} {j : Nat} {r x : Int} (hl : Q.length = W.length) (hj : j < W.length) (hr : 0 ≤ r) (h : val 4294967296 (W.drop (j + 1)) = 10 * val 4294967296 (Q.drop (j + 1)) + r) (hx : x = r * 4294967296 + gt W j) :
    val 4294967296 (W.drop j) = 10 * val 4294967296 ((Q.set j (x / 10)).drop j) + x % 10 := by
  rw [dropg hj, dropg (l := Q.set j (x / 10)) (by simp; omega)]
  have e1 : gt (Q.set j (x / 10)) j = x / 10 := gt_set (by omega)
  have e2 : (Q.set j (x / 10)).drop (j + 1) = Q.drop (j + 1) := by rw [List.drop_set]; simp
  rw [e1, e2]
  simp only [val]
  rw [h]
  generalize val 4294967296 (List.drop (j + 1) Q) = V
  omega
end Go.Proofs.Ytgeecahbahgjbaa
