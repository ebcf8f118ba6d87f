/- Whole numbers as rows of digits: their values, the one row without noughts at its end. -/
import Derived.Test.YtjbbbkfdcegfmaaGreatG0V
import Derived.Test.YtjbbbkfdcegfmaaGreatG0Z
import Derived.Tactics
import Derived.Laws.MathBits
import Derived.Laws.BitsAllLaws
import Derived.Sort.AssemblyPlain
import Derived.Shelf.GgSortFunc.InsertionK
import Derived.Lib.BitFns
import Derived.Shelf.SlSortCmp.NoneTotal
import Derived.Shelf.SortM.Plain

namespace Go.Proofs.YtjbbbkfdcegfmaaGreat

def val (B : Nat) : List Int → Int
  | []=>0
  | x :: r=>x + (B : Int) * val B r
def Dig (B : Nat) (l : List Int) : Prop:=∀ x ∈ l,0 ≤ x ∧ x < (B : Int)
def Can (l : List Int) : Prop:=l.getLast? ≠ some 0
def digs (B : Nat) (n : Nat) : List Int :=
  if h : n = 0 ∨ B ≤ 1 then [] else ((n % B : Nat) : Int) :: digs B (n / B)
  termination_by n
  decreasing_by exact Nat.div_lt_self (by omega) (by omega)
def trimW : List Int → List Int
  | []=>[]
  | x :: r=>match trimW r with
    | []=>if x = 0 then [] else [x]
    | y :: s=>x :: y :: s

theorem Dig.nil (B : Nat) : Dig B []:=fun x h=>by simp at h
theorem Dig.cons {B : Nat} {x : Int} {r : List Int} (h0 : 0 ≤ x) (h1 : x < B) (h : Dig B r) : Dig B (x :: r):=fun y hy=>by
  rcases List.mem_cons.mp hy with rfl | hy
  · exact ⟨h0,h1⟩
  · exact h y hy
theorem Dig.head {B : Nat} {x : Int} {r : List Int} (h : Dig B (x :: r)) : 0 ≤ x ∧ x < (B : Int):=h x (by simp)
theorem Dig.tail {B : Nat} {x : Int} {r : List Int} (h : Dig B (x :: r)) : Dig B r:=fun y hy=>h y (by simp [hy])
theorem Dig.append {B : Nat} {l r : List Int} (h : Dig B l) (k : Dig B r) : Dig B (l ++ r):=fun x hx=>by
  rcases List.mem_append.mp hx with h' | h'
  · exact h x h'
  · exact k x h'
theorem Dig.take {B : Nat} {l : List Int} (h : Dig B l) (n : Nat) : Dig B (l.take n):=fun x hx=>h x (List.mem_of_mem_take hx)
theorem Dig.drop {B : Nat} {l : List Int} (h : Dig B l) (n : Nat) : Dig B (l.drop n):=fun x hx=>h x (List.mem_of_mem_drop hx)
theorem Dig.get {B : Nat} {l : List Int} (h : Dig B l) {i : Nat} {x : Int} (hx : l[i]? = some x) : 0 ≤ x ∧ x < (B : Int):=h x (List.mem_of_getElem? hx)
theorem Dig.set {B : Nat} {l : List Int} (h : Dig B l) (i : Nat) {x : Int} (h0 : 0 ≤ x) (h1 : x < B) : Dig B (l.set i x):=fun y hy=>by
  rcases List.mem_or_eq_of_mem_set hy with h' | h'
  · exact h y h'
  · rw [h']; exact ⟨h0,h1⟩
theorem Dig.replicate {B : Nat} (n : Nat) {x : Int} (h0 : 0 ≤ x) (h1 : x < B) : Dig B (List.replicate n x):=fun y hy=>by
  rw [(List.mem_replicate.mp hy).2]; exact ⟨h0,h1⟩

theorem val_nonneg {B : Nat} : ∀ {l : List Int},Dig B l → 0 ≤ val B l
  | [],_=>by simp [val]
  | x :: r,h=>by
    have:=val_nonneg h.tail
    have h1:=h.head
    unfold val
    have : 0 ≤ (B : Int) * val B r:=Int.mul_nonneg (by omega) this
    omega

theorem val_append {B : Nat} : ∀ (l r : List Int),val B (l ++ r) = val B l + (B : Int) ^ l.length * val B r
  | [],r=>by simp [val]
  | x :: l,r=>by
    simp only [List.cons_append,val,val_append l r,List.length_cons]
    rw [Int.pow_succ,Int.mul_add,← Int.mul_assoc,Int.mul_comm (B : Int) ((B : Int) ^ l.length)]
    omega

theorem val_lt {B : Nat} : ∀ {l : List Int},Dig B l → val B l < (B : Int) ^ l.length
  | [],_=>by simp [val]
  | x :: r,h=>by
    have ih:=val_lt h.tail
    have h1:=h.head
    unfold val
    rw [List.length_cons,Int.pow_succ,Int.mul_comm]
    have h2 : val B r + 1 ≤ (B : Int) ^ r.length:=by omega
    have h3 : (val B r + 1) * (B : Int) ≤ (B : Int) ^ r.length * (B : Int):=Int.mul_le_mul_of_nonneg_right h2 (by omega)
    rw [Int.add_mul] at h3
    rw [Int.mul_comm] 
    rw [Int.mul_comm (val B r)] at h3
    rw [Int.mul_comm (B : Int) (val B r)] at *
    omega

theorem val_replicate {B : Nat} : ∀ n,val B (List.replicate n 0) = 0
  | 0=>rfl
  | n + 1=>by simp [List.replicate_succ,val,val_replicate n]

theorem trimW_val {B : Nat} : ∀ l,val B (trimW l) = val B l
  | []=>rfl
  | x :: r=>by
    have ih:=trimW_val (B:=B) r
    unfold trimW
    split
    · rename_i h
      rw [h] at ih
      simp only [val] at ih
      split
      · rename_i hx; simp [val,← ih,hx]
      · simp [val,← ih]
    · rename_i y s h
      rw [h] at ih
      simp only [val] at ih ⊢
      rw [ih]

theorem trimW_can : ∀ l,Can (trimW l)
  | []=>by simp [trimW,Can]
  | x :: r=>by
    have ih:=trimW_can r
    unfold trimW
    split
    · split
      · simp [Can]
      · rename_i hx; simp [Can,hx]
    · rename_i y s h
      rw [h] at ih
      unfold Can at *
      simpa [List.getLast?_cons_cons] using ih

theorem trimW_mem : ∀ (l : List Int) (x : Int),x ∈ trimW l → x ∈ l
  | [],x,h=>by simp [trimW] at h
  | y :: r,x,h=>by
    have ih:=trimW_mem r x
    unfold trimW at h
    split at h
    · split at h
      · simp at h
      · simp at h; simp [h]
    · rename_i z s hz
      rw [hz] at ih
      rcases List.mem_cons.mp h with h | h
      · simp [h]
      · simp [ih h]
theorem Dig.trim {B : Nat} {l : List Int} (h : Dig B l) : Dig B (trimW l):=fun x hx=>h x (trimW_mem l x hx)

theorem trimW_length : ∀ (l : List Int),(trimW l).length ≤ l.length
  | []=>by simp [trimW]
  | y :: r=>by
    have ih:=trimW_length r
    unfold trimW
    split
    · split <;> simp
    · rename_i z s hz
      rw [hz] at ih
      simp at ih ⊢; omega

theorem Can.tail {x y : Int} {r : List Int} (h : Can (x :: y :: r)) : Can (y :: r):=by
  unfold Can at *; simpa [List.getLast?_cons_cons] using h

theorem can_pos {B : Nat} (hB : 1 < B) : ∀ {l : List Int},Dig B l → Can l → l ≠ [] → 0 < val B l
  | [],_,_,h=>by simp at h
  | [x],hd,hc,_=>by
    have:=hd.head
    have : x ≠ 0:=by intro e; subst e; simp [Can] at hc
    simp [val]; omega
  | x :: y :: r,hd,hc,_=>by
    have ih:=can_pos hB hd.tail hc.tail (by simp)
    have:=hd.head
    unfold val
    have : 0 < (B : Int) * val B (y :: r):=Int.mul_pos (by omega) ih
    omega

theorem digs_zero (B : Nat) : digs B 0 = []:=by rw [digs]; simp
theorem digs_pos {B n : Nat} (hB : 1 < B) (hn : n ≠ 0) : digs B n = ((n % B : Nat) : Int) :: digs B (n / B):=by
  rw [digs,dif_neg (by omega)]

theorem digs_val {B : Nat} (hB : 1 < B) : ∀ n,val B (digs B n) = n:=by
  intro n
  induction n using Nat.strongRecOn with
  | _ n ih =>
    by_cases hn : n = 0
    · subst hn; simp [digs_zero,val]
    · rw [digs_pos hB hn,val,ih _ (Nat.div_lt_self (by omega) hB)]
      have:=Nat.mod_add_div n B
      exact_mod_cast this

theorem digs_dig {B : Nat} (hB : 1 < B) : ∀ n,Dig B (digs B n):=by
  intro n
  induction n using Nat.strongRecOn with
  | _ n ih =>
    by_cases hn : n = 0
    · subst hn; rw [digs_zero]; exact Dig.nil B
    · rw [digs_pos hB hn]
      exact Dig.cons (by omega) (by exact_mod_cast Nat.mod_lt n (by omega)) (ih _ (Nat.div_lt_self (by omega) hB))

theorem digs_can {B : Nat} (hB : 1 < B) : ∀ n,Can (digs B n):=by
  intro n
  induction n using Nat.strongRecOn with
  | _ n ih =>
    by_cases hn : n = 0
    · subst hn; rw [digs_zero]; simp [Can]
    · rw [digs_pos hB hn]
      have ih':=ih _ (Nat.div_lt_self (by omega) hB)
      by_cases h2 : n / B = 0
      · rw [h2,digs_zero]
        have : n % B = n:=by rw [Nat.mod_eq_of_lt]; rw [Nat.div_eq_zero_iff] at h2; omega
        unfold Can
        simp [this]; omega
      · rw [digs_pos hB h2] at ih' ⊢
        unfold Can at *; simpa [List.getLast?_cons_cons] using ih'

/-- A row of digits without noughts at its end is the row of its value. -/
theorem digs_of {B : Nat} (hB : 1 < B) : ∀ {l : List Int},Dig B l → Can l → digs B (val B l).toNat = l
  | [],_,_=>by simp [val,digs_zero]
  | x :: r,hd,hc=>by
    have hpos:=can_pos hB hd hc (by simp)
    have h1:=hd.head
    have h2:=val_nonneg hd.tail
    rw [digs_pos hB (by omega)]
    have hv : val B (x :: r) = x + (B : Int) * val B r:=rfl
    have e1 : (val B (x :: r)).toNat = x.toNat + B * (val B r).toNat:=by
      rw [hv]
      have : (B : Int) * val B r = ((B * (val B r).toNat : Nat) : Int):=by rw [Int.natCast_mul,Int.toNat_of_nonneg h2]
      omega
    have hx : x.toNat < B:=by omega
    have e2 : (val B (x :: r)).toNat % B = x.toNat:=by rw [e1,Nat.add_mul_mod_self_left,Nat.mod_eq_of_lt hx]
    have e3 : (val B (x :: r)).toNat / B = (val B r).toNat:=by rw [e1,Nat.add_mul_div_left _ _ (by omega),Nat.div_eq_of_lt hx]; omega
    rw [e2,e3,digs_of hB hd.tail (by
      cases r with
      | nil=>simp [Can]
      | cons y s=>exact hc.tail)]
    congr 1; omega

theorem trimW_digs {B : Nat} (hB : 1 < B) {l : List Int} (h : Dig B l) : trimW l = digs B (val B l).toNat:=by
  rw [← trimW_val l,digs_of hB h.trim (trimW_can l)]

theorem digs_inj {B : Nat} (hB : 1 < B) {m n : Nat} (h : digs B m = digs B n) : m = n:=by
  have h1:=digs_val hB m
  have h2:=digs_val hB n
  rw [h] at h1
  omega

theorem digs_eq_nil {B : Nat} (hB : 1 < B) {n : Nat} : digs B n = [] ↔ n = 0:=by
  constructor
  · intro h; exact digs_inj hB (by rw [h,digs_zero])
  · rintro rfl; exact digs_zero B

theorem digs_length_le {B : Nat} (hB : 1 < B) : ∀ (k n : Nat),n < B ^ k → (digs B n).length ≤ k
  | 0,n,h=>by
    have : n = 0:=by simpa using h
    subst this; simp [digs_zero]
  | k + 1,n,h=>by
    by_cases hn : n = 0
    · subst hn; simp [digs_zero]
    · rw [digs_pos hB hn,List.length_cons]
      have:=digs_length_le hB k (n / B) (by rw [Nat.div_lt_iff_lt_mul (by omega)]; rwa [Nat.pow_succ] at h)
      omega

theorem trimW_concat_zero : ∀ (l : List Int),trimW (l ++ [0]) = trimW l
  | []=>by simp [trimW]
  | x :: r=>by simp only [List.cons_append,trimW,trimW_concat_zero r]
theorem trimW_concat_pos : ∀ (l : List Int) (x : Int),x ≠ 0 → trimW (l ++ [x]) = l ++ [x]
  | [],x,h=>by simp [trimW,h]
  | y :: r,x,h=>by
    have ih:=trimW_concat_pos r x h
    simp only [List.cons_append,trimW,ih]
    cases r <;> simp
end Go.Proofs.YtjbbbkfdcegfmaaGreat

/- Rows of digits compared. -/
namespace Go.Proofs.YtjbbbkfdcegfmaaGreat

def cmpAt (a b : List Int) : Nat → Int
  | 0=>0
  | m + 1=>if gt a m = gt b m then cmpAt a b m else if gt a m < gt b m then -1 else 1
def cmpI (a b : List Int) : Int:=if a.length = b.length then cmpAt a b a.length else (a.length : Int) - b.length
theorem cmpI_of {a b : List Int} (h : a.length = b.length) : cmpI a b = cmpAt a b a.length:=by simp [cmpI,h]
theorem cmpI_ne {a b : List Int} (h : a.length ≠ b.length) : cmpI a b = (a.length : Int) - b.length:=by simp [cmpI,h]

theorem val_take_succ {B : Nat} (l : List Int) (i : Nat) : val B (l.take (i + 1)) = val B (l.take i) + (B : Int) ^ i * gt l i:=by
  by_cases h : i < l.length
  · rw [List.take_add_one,gt_some h,val_append]
    simp [val,Nat.min_eq_left (Nat.le_of_lt h)]
  · rw [List.take_of_length_le (by omega),List.take_of_length_le (by omega),gt_ge (by omega)]; simp
theorem val_take_all {B : Nat} {l : List Int} {i : Nat} (h : l.length ≤ i) : val B (l.take i) = val B l:=by rw [List.take_of_length_le h]
theorem gt_set {l : List Int} {i : Nat} {v : Int} (h : i < l.length) : gt (l.set i v) i = v:=by simp [gt,h]
theorem gt_set_ne {l : List Int} {i j : Nat} {v : Int} (h : i ≠ j) : gt (l.set i v) j = gt l j:=by simp [gt,List.getElem?_set_ne h]
theorem take_set {l : List Int} {i : Nat} {v : Int} : (l.set i v).take i = l.take i:=by
  rw [List.take_set,List.set_eq_of_length_le (by simp; omega)]
theorem val_set_take {B : Nat} {l : List Int} {i : Nat} {v : Int} (h : i < l.length) : val B ((l.set i v).take (i + 1)) = val B (l.take i) + (B : Int) ^ i * v:=by
  rw [val_take_succ,take_set,gt_set h]
theorem Dig.gt {B : Nat} {l : List Int} (hB : 0 < B) (h : Dig B l) (i : Nat) : 0 ≤ gt l i ∧ gt l i < (B : Int):=by
  by_cases hi : i < l.length
  · exact h.get (gt_some hi)
  · rw [gt_ge (by omega)]; omega
theorem val_lt64 {l : List Int} (h : Dig 18446744073709551616 l) : val 18446744073709551616 l < (18446744073709551616 : Int) ^ l.length:=val_lt h
theorem val_lt32 {l : List Int} (h : Dig 4294967296 l) : val 4294967296 l < (4294967296 : Int) ^ l.length:=val_lt h
theorem val_take64 (l : List Int) (i : Nat) : val 18446744073709551616 (l.take (i + 1)) = val 18446744073709551616 (l.take i) + (18446744073709551616 : Int) ^ i * gt l i:=val_take_succ l i
theorem val_take32 (l : List Int) (i : Nat) : val 4294967296 (l.take (i + 1)) = val 4294967296 (l.take i) + (4294967296 : Int) ^ i * gt l i:=val_take_succ l i
end Go.Proofs.YtjbbbkfdcegfmaaGreat

/- Whole numbers with a sign and words: as values of the program. -/
namespace Go.Proofs.YtjbbbkfdcegfmaaGreat
open Go Go.RowKit

def mag (z : Int) : List Int:=digs 18446744073709551616 z.natAbs
def numI (z : Int) : AV:=.agg [.bool (decide (z < 0)),Wd .u64 (mag z)]
def sg (b : Bool) (v : Int) : Int:=if b then -v else v
/-- Fewer than so many words. -/
def Bg (k : Nat) (z : Int) : Prop:=z.natAbs < 18446744073709551616 ^ k

theorem mag_dig (z : Int) : Dig 18446744073709551616 (mag z):=digs_dig (by omega) _
theorem mag_can (z : Int) : Can (mag z):=digs_can (by omega) _
theorem mag_val (z : Int) : val 18446744073709551616 (mag z) = (z.natAbs : Int):=digs_val (by omega) _
theorem mag_abs (z : Int) : mag (z.natAbs : Int) = mag z:=by simp [mag]
theorem mag_neg (z : Int) : mag (-z) = mag z:=by simp [mag]
theorem mag_zero : mag 0 = []:=digs_zero _
theorem mag_nil {z : Int} : mag z = [] ↔ z = 0:=by unfold mag; rw [digs_eq_nil (by omega)]; omega
theorem mag_len0 {z : Int} : (mag z).length = 0 ↔ z = 0:=by rw [List.length_eq_zero_iff,mag_nil]
theorem mag_of {l : List Int} (h : Dig 18446744073709551616 l) : trimW l = mag (val 18446744073709551616 l):=by
  have:=val_nonneg h
  rw [trimW_digs (by omega) h,mag]; congr 1; omega
theorem Bg.len {k : Nat} {z : Int} (h : Bg k z) : (mag z).length ≤ k:=digs_length_le (by omega) k _ h
theorem Bg.le {j k : Nat} {z : Int} (h : Bg j z) (hk : j ≤ k) : Bg k z:=Nat.lt_of_lt_of_le h (Nat.pow_le_pow_right (by omega) hk)
theorem Bg.abs {k : Nat} {z : Int} (h : Bg k z) : Bg k (z.natAbs : Int):=by unfold Bg at *; simpa using h
theorem Bg.neg {k : Nat} {z : Int} (h : Bg k z) : Bg k (-z):=by unfold Bg at *; simpa using h
theorem Bg.add {j k : Nat} {a b : Int} (ha : Bg j a) (hb : Bg k b) : Bg (max j k + 1) (a + b):=by
  unfold Bg at *
  have h1 : a.natAbs < 18446744073709551616 ^ max j k:=Nat.lt_of_lt_of_le ha (Nat.pow_le_pow_right (by omega) (Nat.le_max_left _ _))
  have h2 : b.natAbs < 18446744073709551616 ^ max j k:=Nat.lt_of_lt_of_le hb (Nat.pow_le_pow_right (by omega) (Nat.le_max_right _ _))
  rw [Nat.pow_succ]
  have:=Int.natAbs_add_le a b
  omega
theorem Bg.sub {j k : Nat} {a b : Int} (ha : Bg j a) (hb : Bg k b) : Bg (max j k + 1) (a - b):=by rw [Int.sub_eq_add_neg]; exact ha.add hb.neg
theorem Bg.mul {j k : Nat} {a b : Int} (ha : Bg j a) (hb : Bg k b) : Bg (j + k) (a * b):=by
  unfold Bg at *
  rw [Int.natAbs_mul,Nat.pow_add]
  exact Nat.mul_lt_mul'' ha hb
theorem Bg.i64 {n : Int} (h1 : -9223372036854775808 ≤ n) (h2 : n ≤ 9223372036854775807) : Bg 1 n:=by unfold Bg; omega
theorem Bg.zero : Bg 0 0:=by unfold Bg; simp

theorem sg_true (v : Int) : sg true v = -v:=rfl
theorem sg_false (v : Int) : sg false v = v:=rfl
theorem numI_mk {b : Bool} {l : List Int} (h : Dig 18446744073709551616 l) : AV.agg [.bool (b && decide (0 < (trimW l).length)),Wd .u64 (trimW l)] = numI (sg b (val 18446744073709551616 l)):=by
  have h0:=val_nonneg h
  have e1 : mag (sg b (val 18446744073709551616 l)) = trimW l:=by
    rw [mag_of h]
    cases b
    · rfl
    · exact mag_neg _
  unfold numI
  rw [e1]
  have : decide (sg b (val 18446744073709551616 l) < 0) = (b && decide (0 < (trimW l).length)):=by
    have e2 : (0 < (trimW l).length) ↔ val 18446744073709551616 l ≠ 0:=by
      rw [mag_of h,Nat.pos_iff_ne_zero,ne_eq,mag_len0]
    cases b
    · simp [sg]; omega
    · simp only [sg,if_true,Bool.true_and,decide_eq_decide,e2]; omega
  rw [this]
theorem cells_numI (z : Int) : avCells (numI z) = some [.bool (decide (z < 0)),Wd .u64 (mag z)]:=rfl
theorem numI_fold (z : Int) : AV.agg [.bool (decide (z < 0)),Wd .u64 (mag z)] = numI z:=rfl
theorem idf_numI (z : Int) : idf (numI z) = True:=by simp [numI,idf,idfL,idf_Wd']
theorem num0_weak {w : World} {β : Nat → Option Loc} {b : Nat → Bool} {v : Value} (h : VR w β b (.agg [.bool false,.nsl]) v) : VR w β b (numI 0) v:=by
  obtain ⟨vs,rfl,u,r,e,h1,u2,r2,e2,h2,h3⟩:=h
  exact ⟨vs,rfl,u,r,e,h1,u2,r2,e2,(by rw [mag_zero]; exact nsl_Wd .u64 h2),h3⟩

theorem val_set {B : Nat} : ∀ {l : List Int} {i : Nat} {v : Int},i < l.length → val B (l.set i v) = val B l + (B : Int) ^ i * (v - gt l i)
  | [],i,v,h=>by simp at h
  | x :: r,0,v,_=>by simp [val,gt]; omega
  | x :: r,i + 1,v,h=>by
    have ih:=val_set (B:=B) (l:=r) (i:=i) (v:=v) (by simpa using h)
    have e : gt (x :: r) (i + 1) = gt r i:=by simp [gt]
    rw [List.set_cons_succ,e]
    simp only [val,ih,Int.pow_succ]
    grind
theorem val_setB {l : List Int} {i : Nat} {v : Int} (h : i < l.length) : val 18446744073709551616 (l.set i v) = val 18446744073709551616 l + (18446744073709551616 : Int) ^ i * (v - gt l i):=val_set h
theorem val_setC {l : List Int} {i : Nat} {v : Int} (h : i < l.length) : val 4294967296 (l.set i v) = val 4294967296 l + (4294967296 : Int) ^ i * (v - gt l i):=val_set h

/-- Words compared. -/
theorem cmpAt_spec {B : Nat} (hB : 1 < B) {a b : List Int} (da : Dig B a) (db : Dig B b) : ∀ n,(cmpAt a b n < 0 ↔ val B (a.take n) < val B (b.take n)) ∧ (cmpAt a b n = 0 ↔ val B (a.take n) = val B (b.take n))
  | 0=>by simp [cmpAt,val]
  | n + 1=>by
    have ih:=cmpAt_spec hB da db n
    rw [val_take_succ,val_take_succ]
    have ha:=val_lt (da.take n)
    have hb:=val_lt (db.take n)
    have ha0:=val_nonneg (da.take n)
    have hb0:=val_nonneg (db.take n)
    have hp : ∀ (l : List Int),(B : Int) ^ (l.take n).length ≤ (B : Int) ^ n:=fun l=>by
      have : B ^ (l.take n).length ≤ B ^ n:=Nat.pow_le_pow_right (by omega) (by simp; omega)
      exact_mod_cast this
    have h1:=hp a
    have h2:=hp b
    unfold cmpAt
    by_cases e : gt a n = gt b n
    · rw [if_pos e,e]
      constructor
      · rw [ih.1]; omega
      · rw [ih.2]; omega
    · rw [if_neg e]
      by_cases e2 : gt a n < gt b n
      · rw [if_pos e2]
        have h3 : (B : Int) ^ n * (gt a n + 1) ≤ (B : Int) ^ n * gt b n:=Int.mul_le_mul_of_nonneg_left (by omega) (by omega)
        rw [Int.mul_add,Int.mul_one] at h3
        constructor
        · constructor
          · intro _; omega
          · intro _; omega
        · constructor
          · intro h; omega
          · intro h; omega
      · rw [if_neg e2]
        have h3 : (B : Int) ^ n * (gt b n + 1) ≤ (B : Int) ^ n * gt a n:=Int.mul_le_mul_of_nonneg_left (by omega) (by omega)
        rw [Int.mul_add,Int.mul_one] at h3
        constructor
        · constructor
          · intro h; omega
          · intro h; omega
        · constructor
          · intro h; omega
          · intro h; omega

theorem can_len_lt {B : Nat} (hB : 1 < B) {a b : List Int} (da : Dig B a) (db : Dig B b) (cb : Can b) (h : a.length < b.length) : val B a < val B b:=by
  have h1:=val_lt da
  have h2 : (B : Int) ^ (b.length - 1) ≤ val B b:=by
    have e:=val_take_succ (B:=B) b (b.length - 1)
    rw [val_take_all (by omega)] at e
    have h3:=val_nonneg (db.take (b.length - 1))
    have h4 : 1 ≤ gt b (b.length - 1):=by
      have h5:=db.gt (by omega) (b.length - 1)
      have h6 : gt b (b.length - 1) ≠ 0:=by
        intro h7
        unfold Can at cb
        rw [List.getLast?_eq_getElem?] at cb
        rw [gt_some (by omega),h7] at cb
        exact cb rfl
      omega
    have h8 : (B : Int) ^ (b.length - 1) * 1 ≤ (B : Int) ^ (b.length - 1) * gt b (b.length - 1):=Int.mul_le_mul_of_nonneg_left h4 (by
      have : 0 ≤ ((B ^ (b.length - 1) : Nat) : Int):=Int.natCast_nonneg _
      rwa [Int.natCast_pow] at this)
    omega
  have h9 : (B : Int) ^ a.length ≤ (B : Int) ^ (b.length - 1):=by
    have : B ^ a.length ≤ B ^ (b.length - 1):=Nat.pow_le_pow_right (by omega) (by omega)
    exact_mod_cast this
  omega

theorem cmpI_spec {B : Nat} (hB : 1 < B) {a b : List Int} (da : Dig B a) (db : Dig B b) (ca : Can a) (cb : Can b) : (cmpI a b < 0 ↔ val B a < val B b) ∧ (cmpI a b = 0 ↔ val B a = val B b):=by
  by_cases h : a.length = b.length
  · rw [cmpI_of h]
    have:=cmpAt_spec hB da db a.length
    rwa [val_take_all (Nat.le_refl _),val_take_all (by omega)] at this
  · rw [cmpI_ne h]
    rcases Nat.lt_or_gt_of_ne h with h1 | h1
    · have:=can_len_lt hB da db cb h1
      omega
    · have:=can_len_lt hB db da ca h1
      omega
theorem cmpI_mag (a b : Int) : (cmpI (mag a) (mag b) < 0 ↔ a.natAbs < b.natAbs) ∧ (cmpI (mag a) (mag b) = 0 ↔ a.natAbs = b.natAbs):=by
  have:=cmpI_spec (B:=18446744073709551616) (by omega) (mag_dig a) (mag_dig b) (mag_can a) (mag_can b)
  rw [mag_val,mag_val] at this
  omega
end Go.Proofs.YtjbbbkfdcegfmaaGreat

/- Arithmetic of 64 bits in halves. -/
namespace Go.Proofs.YtjbbbkfdcegfmaaGreat
open Go

theorem mul64_hi (x y : Int) (hx0 : 0 ≤ x) (hx : x < 18446744073709551616) (hy0 : 0 ≤ y) (hy : y < 18446744073709551616) :
    (x / 4294967296 * (y / 4294967296) +
                (x / 4294967296 * (y % 4294967296) +
                      x % 4294967296 * (y % 4294967296) % 18446744073709551616 / 4294967296) %
                    18446744073709551616 /
                  4294967296 +
              ((x / 4294967296 * (y % 4294967296) +
                        x % 4294967296 * (y % 4294967296) % 18446744073709551616 / 4294967296) %
                      4294967296 +
                    x % 4294967296 * (y / 4294967296)) %
                  18446744073709551616 /
                4294967296) %
            18446744073709551616 = x * y / 18446744073709551616:=by
  have ex : x = x / 4294967296 * 4294967296 + x % 4294967296:=by omega
  have ey : y = y / 4294967296 * 4294967296 + y % 4294967296:=by omega
  generalize hx1 : x / 4294967296 = x1 at *
  generalize hx0' : x % 4294967296 = x0 at *
  generalize hy1 : y / 4294967296 = y1 at *
  generalize hy0' : y % 4294967296 = y0 at *
  have b1 : 0 ≤ x1 ∧ x1 ≤ 4294967295:=by omega
  have b2 : 0 ≤ x0 ∧ x0 ≤ 4294967295:=by omega
  have b3 : 0 ≤ y1 ∧ y1 ≤ 4294967295:=by omega
  have b4 : 0 ≤ y0 ∧ y0 ≤ 4294967295:=by omega
  have pA:=prod_bound x1 y1 b1.1 b1.2 b3.1 b3.2
  have pB:=prod_bound x1 y0 b1.1 b1.2 b4.1 b4.2
  have pC:=prod_bound x0 y0 b2.1 b2.2 b4.1 b4.2
  have pD:=prod_bound x0 y1 b2.1 b2.2 b3.1 b3.2
  have hxy : x * y = x1 * y1 * 18446744073709551616 + (x1 * y0 + x0 * y1) * 4294967296 + x0 * y0:=by rw [ex,ey]; exact split_mul x1 x0 y1 y0
  rw [hxy]
  generalize x1 * y1 = A at *
  generalize x1 * y0 = B at *
  generalize x0 * y0 = C at *
  generalize x0 * y1 = D at *
  omega

theorem tab_of (tab : ByteArray) (h : ((List.range 256).all fun j=>match tab[j]? with | some c=>c.toNat == bitLen j | none=>false) = true) (y : Nat) (hy : y < 256) :
    (match tab[y]? with | some c=>some (AV.int .u8 c.toNat) | none=>none) = some (.int .u8 (bitLen y : Int)):=by
  have:=List.all_eq_true.mp h y (List.mem_range.mpr hy)
  split at this
  · rename_i c hc
    have e : c.toNat = bitLen y:=by simpa using this
    simp [e]
  · simp at this

theorem bitLen_le64 {x : Nat} (hx : x < 18446744073709551616) : bitLen x ≤ 64:=by
  unfold bitLen; split
  · omega
  · rename_i h0
    have:=(Nat.log2_lt h0).2 (show x < 2 ^ 64 from hx)
    omega
theorem bitLen_of {n k : Nat} (h1 : 2 ^ k ≤ n) (h2 : n < 2 ^ (k + 1)) : bitLen n = k + 1:=by
  have hn : n ≠ 0:=by have:=Nat.two_pow_pos k; omega
  unfold bitLen
  rw [if_neg hn]
  have e:=(Nat.log2_eq_iff hn).2 ⟨h1,h2⟩
  omega
/-- The bits of a number by its highest word. -/
theorem bitLen_top (z : Int) (q : Nat) (h : 0 < (mag z).length) (hq : gt (mag z) ((mag z).length - 1) = (q : Int)) : bitLen z.natAbs + 64 = 64 * (mag z).length + bitLen q:=by
  have hz:=mag_val z
  have e:=val_take_succ (B:=18446744073709551616) (mag z) ((mag z).length - 1)
  rw [val_take_all (by omega),hz,hq] at e
  have h1:=val_lt ((mag_dig z).take ((mag z).length - 1))
  have h2:=val_nonneg ((mag_dig z).take ((mag z).length - 1))
  have hlen : ((mag z).take ((mag z).length - 1)).length = (mag z).length - 1:=by simp
  rw [hlen] at h1
  generalize hm : (mag z).length - 1 = m at *
  generalize val 18446744073709551616 ((mag z).take m) = v at *
  obtain ⟨V,rfl⟩:=Int.eq_ofNat_of_zero_le h2
  have hP : ((18446744073709551616 : Nat) : Int) ^ m = ((18446744073709551616 ^ m : Nat) : Int):=by rw [Int.natCast_pow]
  rw [hP] at e h1
  have hp2 : 18446744073709551616 ^ m = 2 ^ (64 * m):=by rw [Nat.pow_mul]
  rw [hp2] at e h1
  have hq0 : q ≠ 0:=by
    intro h0
    subst h0
    have hcan:=mag_can z
    unfold Can at hcan
    rw [List.getLast?_eq_getElem?,hm,gt_some (by omega),hq] at hcan
    exact hcan rfl
  have hb : bitLen q = q.log2 + 1:=by unfold bitLen; rw [if_neg hq0]
  have hl1:=Nat.log2_self_le hq0
  have hl2 : q < 2 ^ (q.log2 + 1):=Nat.lt_log2_self
  have hV : V < 2 ^ (64 * m):=by omega
  have e' : z.natAbs = V + 2 ^ (64 * m) * q:=by
    have : ((2 ^ (64 * m) : Nat) : Int) * (q : Int) = ((2 ^ (64 * m) * q : Nat) : Int):=by rw [Int.natCast_mul]
    rw [this] at e; omega
  have r1 : 2 ^ (64 * m + q.log2) ≤ z.natAbs:=by
    rw [e',Nat.pow_add]
    have:=Nat.mul_le_mul_left (2 ^ (64 * m)) hl1
    omega
  have r2 : z.natAbs < 2 ^ (64 * m + q.log2 + 1):=by
    rw [e',Nat.add_assoc,Nat.pow_add]
    have:=Nat.mul_le_mul_left (2 ^ (64 * m)) (show q + 1 ≤ 2 ^ (q.log2 + 1) by omega)
    rw [Nat.mul_add] at this
    omega
  have:=bitLen_of r1 r2
  omega

theorem xor_all {b : Nat} (hb : b < 18446744073709551616) : 18446744073709551615 ^^^ b = 18446744073709551615 - b:=by
  have e1 : (18446744073709551615 : Nat) = 2 ^ 64 - 1:=rfl
  have e2 : 18446744073709551615 - b = 2 ^ 64 - (b + 1):=by omega
  rw [e2,e1]
  apply Nat.eq_of_testBit_eq
  intro i
  rw [Nat.testBit_xor,Nat.testBit_two_pow_sub_one,Nat.testBit_two_pow_sub_succ hb]
  by_cases hi : i < 64
  · simp [hi]
  · have hp : 2 ^ 64 ≤ 2 ^ i:=Nat.pow_le_pow_right (show 0 < 2 by decide) (show 64 ≤ i by omega)
    have : b.testBit i = false:=Nat.testBit_lt_two_pow (Nat.lt_of_lt_of_le (show b < 2 ^ 64 from hb) hp)
    simp [hi,this]
theorem not_u64 {x : Int} (h0 : 0 ≤ x) (h1 : x < 18446744073709551616) : bits .xor .u64 (if IntKind.u64.signed = true then -1 else IntKind.u64.max) x = 18446744073709551615 - x:=by
  have e : (if IntKind.u64.signed = true then (-1 : Int) else IntKind.u64.max) = 18446744073709551615:=rfl
  rw [e,u64_xor _ _ (by omega) (by omega) h0 h1]
  have:=xor_all (b:=x.toNat) (by omega)
  rw [show (18446744073709551615 : Int).toNat = 18446744073709551615 from rfl,this]
  omega
end Go.Proofs.YtjbbbkfdcegfmaaGreat

/- Numbers of 256 bits. -/
namespace Go.Proofs.YtjbbbkfdcegfmaaGreat
open Go

/-- A number of 256 bits by its four words, and its value. -/
def wdI (w3 w2 w1 w0 : Int) : AV:=.agg [.int .u64 w3,.int .u64 w2,.int .u64 w1,.int .u64 w0]
def uval (w3 w2 w1 w0 : Int) : Int:=w0 + 18446744073709551616 * (w1 + 18446744073709551616 * (w2 + 18446744073709551616 * w3))
def sval (w3 w2 w1 w0 : Int) : Int:=if w3 < 9223372036854775808 then uval w3 w2 w1 w0 else uval w3 w2 w1 w0 - 115792089237316195423570985008687907853269984665640564039457584007913129639936
def U64 (x : Int) : Prop:=0 ≤ x ∧ x < 18446744073709551616

theorem val4 (a b c d : Int) : val 18446744073709551616 [a,b,c,d] = uval d c b a:=by simp [val,uval]
theorem list4 {l : List Int} (h : l.length = 4) : l = [gt l 0,gt l 1,gt l 2,gt l 3]:=by
  match l,h with
  | [a,b,c,d],_=>rfl
theorem dig4 {a b c d : Int} (ha : U64 a) (hb : U64 b) (hc : U64 c) (hd : U64 d) : Dig 18446744073709551616 [a,b,c,d] :=
  Dig.cons ha.1 ha.2 (Dig.cons hb.1 hb.2 (Dig.cons hc.1 hc.2 (Dig.cons hd.1 hd.2 (Dig.nil _))))
theorem sval_bg {a b c d : Int} (ha : U64 a) (hb : U64 b) (hc : U64 c) (hd : U64 d) : Bg 4 (sval a b c d):=by
  unfold Bg sval uval
  unfold U64 at *
  split <;> omega
theorem comp4 (a b c d : Int) : uval (18446744073709551615 - a) (18446744073709551615 - b) (18446744073709551615 - c) (18446744073709551615 - d) = 115792089237316195423570985008687907853269984665640564039457584007913129639935 - uval a b c d:=by
  unfold uval; omega

/-- A number told in 256 bits. -/
def fits (z : Int) : Bool:=decide (-57896044618658097711785492504343953926634992332820282019728792003956564819968 ≤ z ∧ z < 57896044618658097711785492504343953926634992332820282019728792003956564819968)
def modW (z : Int) : Int:=z % 115792089237316195423570985008687907853269984665640564039457584007913129639936
def wdZ (z : Int) : AV:=wdI (modW z / 18446744073709551616 / 18446744073709551616 / 18446744073709551616) (modW z / 18446744073709551616 / 18446744073709551616 % 18446744073709551616) (modW z / 18446744073709551616 % 18446744073709551616) (modW z % 18446744073709551616)
def wdT (z : Int) : AV:=if fits z then wdZ z else wdI 0 0 0 0
theorem bitLen_le {n k : Nat} : bitLen n ≤ k ↔ n < 2 ^ k:=by
  have h:=bitLen_spec n
  constructor
  · intro hk
    exact Nat.lt_of_lt_of_le h.1 (Nat.pow_le_pow_right (by omega) hk)
  · intro hk
    rcases Nat.lt_or_ge k (bitLen n) with hlt | hge
    · exfalso
      have hn : n ≠ 0:=by
        intro e; subst e; simp [bitLen] at hlt
      have h2:=h.2 hn
      have : 2 ^ k ≤ 2 ^ (bitLen n - 1):=Nat.pow_le_pow_right (by omega) (by omega)
      omega
    · exact hge
theorem fits_iff {z : Int} : (bitLen (if z < 0 then z + 1 else z).natAbs ≤ 255) ↔ fits z = true:=by
  rw [bitLen_le,fits,decide_eq_true_eq]
  have e : (2 : Nat) ^ 255 = 57896044618658097711785492504343953926634992332820282019728792003956564819968:=by decide
  rw [e]
  split <;> omega
/-- Four words of a row that may be shorter. -/
theorem words4 {l : List Int} (hd : Dig 18446744073709551616 l) (hl : l.length ≤ 4) : val 18446744073709551616 l = uval (gt l 3) (gt l 2) (gt l 1) (gt l 0) ∧ U64 (gt l 0) ∧ U64 (gt l 1) ∧ U64 (gt l 2) ∧ U64 (gt l 3):=by
  refine ⟨?_,hd.gt (by omega) 0,hd.gt (by omega) 1,hd.gt (by omega) 2,hd.gt (by omega) 3⟩
  match l,hl with
  | [],_=>simp [val,uval,gt]
  | [a],_=>simp [val,uval,gt]
  | [a,b],_=>simp [val,uval,gt]
  | [a,b,c],_=>simp [val,uval,gt]
  | [a,b,c,d],_=>simp [val,uval,gt]
theorem wdZ_pos {z a b c d : Int} (ha : U64 a) (hb : U64 b) (hc : U64 c) (hd : U64 d) (h0 : 0 ≤ z) (h : z = uval a b c d) : wdZ z = wdI a b c d:=by
  unfold wdZ modW wdI
  unfold uval at h
  unfold U64 at *
  rw [h]
  congr 1
  congr 1
  · congr 1; omega
  congr 1
  · congr 1; omega
  congr 1
  · congr 1; omega
  congr 1
  · congr 1; omega
theorem wdZ_neg {z a b c d : Int} (ha : U64 a) (hb : U64 b) (hc : U64 c) (hd : U64 d) (h : -z - 1 = uval a b c d) : wdZ z = wdI (18446744073709551615 - a) (18446744073709551615 - b) (18446744073709551615 - c) (18446744073709551615 - d):=by
  unfold wdZ modW wdI
  unfold uval at h
  unfold U64 at *
  have e : z = -(d + 18446744073709551616 * (c + 18446744073709551616 * (b + 18446744073709551616 * a))) - 1:=by omega
  rw [e]
  congr 1
  congr 1
  · congr 1; omega
  congr 1
  · congr 1; omega
  congr 1
  · congr 1; omega
  congr 1
  · congr 1; omega
theorem idf_wdZ (z : Int) : idf (wdZ z) = True:=by unfold wdZ wdI; simp [idf,idfL]
def wdC (z : Int) : List AV:=[.int .u64 (modW z / 18446744073709551616 / 18446744073709551616 / 18446744073709551616),.int .u64 (modW z / 18446744073709551616 / 18446744073709551616 % 18446744073709551616),.int .u64 (modW z / 18446744073709551616 % 18446744073709551616),.int .u64 (modW z % 18446744073709551616)]
theorem cells_wdZ (z : Int) : avCells (wdZ z) = some (wdC z):=rfl
theorem wdC_len (z : Int) : (wdC z).length = 4:=rfl
theorem wdC_all (z : Int) : (wdC z).all avOne = true:=rfl
theorem wdC_one (z : Int) : (∀ x ∈ wdC z,avOne x = true) = True:=by simp [wdC,avOne]
theorem wdC_take (z : Int) : (wdC z).take 4 = wdC z:=rfl
theorem wdC_agg (z : Int) : AV.agg (wdC z) = wdZ z:=rfl
theorem idf_wdT (z : Int) : idf (wdT z) = True:=by
  unfold wdT wdZ wdI; split <;> simp [idf,idfL]
end Go.Proofs.YtjbbbkfdcegfmaaGreat

/- Whole numbers with digits in base 2 to the 32: as values of the reference. -/
namespace Go.Proofs.YtjbbbkfdcegfmaaGreat
open Go Go.RowKit

def dg (z : Int) : List Int:=digs 4294967296 z.natAbs
def numS (z : Int) : AV:=.agg [.bool (decide (z < 0)),Wd .u32 (dg z)]
theorem dg_dig (z : Int) : Dig 4294967296 (dg z):=digs_dig (by omega) _
theorem dg_can (z : Int) : Can (dg z):=digs_can (by omega) _
theorem dg_val (z : Int) : val 4294967296 (dg z) = (z.natAbs : Int):=digs_val (by omega) _
theorem dg_abs (z : Int) : dg (z.natAbs : Int) = dg z:=by simp [dg]
theorem dg_neg (z : Int) : dg (-z) = dg z:=by simp [dg]
theorem dg_zero : dg 0 = []:=digs_zero _
theorem dg_nil {z : Int} : dg z = [] ↔ z = 0:=by unfold dg; rw [digs_eq_nil (by omega)]; omega
theorem dg_len0 {z : Int} : (dg z).length = 0 ↔ z = 0:=by rw [List.length_eq_zero_iff,dg_nil]
theorem dg_of {l : List Int} (h : Dig 4294967296 l) : trimW l = dg (val 4294967296 l):=by
  have:=val_nonneg h
  rw [trimW_digs (by omega) h,dg]; congr 1; omega
theorem Bg.len32 {k : Nat} {z : Int} (h : Bg k z) : (dg z).length ≤ 2 * k:=by
  refine digs_length_le (by omega) _ _ ?_
  have : (4294967296 : Nat) ^ (2 * k) = 18446744073709551616 ^ k:=by rw [Nat.pow_mul]
  rw [this]; exact h
theorem numS_mk {b : Bool} {l : List Int} (h : Dig 4294967296 l) (hn : trimW l ≠ []) : AV.agg [.bool b,Wd .u32 (trimW l)] = numS (sg b (val 4294967296 l)):=by
  have h0:=val_nonneg h
  have e1 : dg (sg b (val 4294967296 l)) = trimW l:=by
    rw [dg_of h]
    cases b
    · rfl
    · exact dg_neg _
  have h1 : val 4294967296 l ≠ 0:=by
    intro e
    rw [dg_of h,e,dg_zero] at hn
    exact hn rfl
  unfold numS
  rw [e1]
  have : decide (sg b (val 4294967296 l) < 0) = b:=by
    cases b
    · simp [sg]; omega
    · simp [sg]; omega
  rw [this]
theorem nS0_weak {w : World} {β : Nat → Option Loc} {b : Nat → Bool} {v : Value} (h : VR w β b (.agg [.bool false,.nsl]) v) : VR w β b (numS 0) v:=by
  obtain ⟨vs,rfl,u,r,e,h1,u2,r2,e2,h2,h3⟩:=h
  exact ⟨vs,rfl,u,r,e,h1,u2,r2,e2,(by rw [dg_zero]; exact nsl_Wd .u32 h2),h3⟩
theorem sg_zero (b : Bool) : sg b 0 = 0:=by cases b <;> rfl
theorem cells_numS (z : Int) : avCells (numS z) = some [.bool (decide (z < 0)),Wd .u32 (dg z)]:=rfl
theorem numS_fold (z : Int) : AV.agg [.bool (decide (z < 0)),Wd .u32 (dg z)] = numS z:=rfl
theorem idf_numS (z : Int) : idf (numS z) = True:=by simp [numS,idf,idfL,idf_Wd']
theorem take_succ_gt {l : List Int} {m : Nat} (h : m < l.length) : l.take (m + 1) = l.take m ++ [gt l m]:=by
  rw [List.take_add_one,gt_some h]; rfl
def cmpS (a b : List Int) : Int:=if a.length = b.length then cmpAt a b a.length else if a.length < b.length then -1 else 1
theorem cmpS_spec {B : Nat} (hB : 1 < B) {a b : List Int} (da : Dig B a) (db : Dig B b) (ca : Can a) (cb : Can b) : (cmpS a b < 0 ↔ val B a < val B b) ∧ (cmpS a b = 0 ↔ val B a = val B b):=by
  unfold cmpS
  by_cases h : a.length = b.length
  · rw [if_pos h]
    have:=cmpAt_spec hB da db a.length
    rwa [val_take_all (Nat.le_refl _),val_take_all (by omega)] at this
  · rw [if_neg h]
    rcases Nat.lt_or_gt_of_ne h with h1 | h1
    · have:=can_len_lt hB da db cb h1
      rw [if_pos h1]; omega
    · have:=can_len_lt hB db da ca h1
      rw [if_neg (by omega)]; omega
theorem cmpS_dg (a b : Int) : (cmpS (dg a) (dg b) < 0 ↔ a.natAbs < b.natAbs) ∧ (cmpS (dg a) (dg b) = 0 ↔ a.natAbs = b.natAbs):=by
  have:=cmpS_spec (B:=4294967296) (by omega) (dg_dig a) (dg_dig b) (dg_can a) (dg_can b)
  rw [dg_val,dg_val] at this
  omega
/-- The bits of a number by its highest digit. -/
theorem bitLen_topS (z : Int) (q : Nat) (h : 0 < (dg z).length) (hq : gt (dg z) ((dg z).length - 1) = (q : Int)) : bitLen z.natAbs + 32 = 32 * (dg z).length + bitLen q:=by
  have hz:=dg_val z
  have e:=val_take_succ (B:=4294967296) (dg z) ((dg z).length - 1)
  rw [val_take_all (by omega),hz,hq] at e
  have h1:=val_lt ((dg_dig z).take ((dg z).length - 1))
  have h2:=val_nonneg ((dg_dig z).take ((dg z).length - 1))
  have hlen : ((dg z).take ((dg z).length - 1)).length = (dg z).length - 1:=by simp
  rw [hlen] at h1
  generalize hm : (dg z).length - 1 = m at *
  generalize val 4294967296 ((dg z).take m) = v at *
  obtain ⟨V,rfl⟩:=Int.eq_ofNat_of_zero_le h2
  have hP : ((4294967296 : Nat) : Int) ^ m = ((4294967296 ^ m : Nat) : Int):=by rw [Int.natCast_pow]
  rw [hP] at e h1
  have hp2 : 4294967296 ^ m = 2 ^ (32 * m):=by rw [Nat.pow_mul]
  rw [hp2] at e h1
  have hq0 : q ≠ 0:=by
    intro h0
    subst h0
    have hcan:=dg_can z
    unfold Can at hcan
    rw [List.getLast?_eq_getElem?,hm,gt_some (by omega),hq] at hcan
    exact hcan rfl
  have hb : bitLen q = q.log2 + 1:=by unfold bitLen; rw [if_neg hq0]
  have hl1:=Nat.log2_self_le hq0
  have hl2 : q < 2 ^ (q.log2 + 1):=Nat.lt_log2_self
  have hV : V < 2 ^ (32 * m):=by omega
  have e' : z.natAbs = V + 2 ^ (32 * m) * q:=by
    have : ((2 ^ (32 * m) : Nat) : Int) * (q : Int) = ((2 ^ (32 * m) * q : Nat) : Int):=by rw [Int.natCast_mul]
    rw [this] at e; omega
  have r1 : 2 ^ (32 * m + q.log2) ≤ z.natAbs:=by
    rw [e',Nat.pow_add]
    have:=Nat.mul_le_mul_left (2 ^ (32 * m)) hl1
    omega
  have r2 : z.natAbs < 2 ^ (32 * m + q.log2 + 1):=by
    rw [e',Nat.add_assoc,Nat.pow_add]
    have:=Nat.mul_le_mul_left (2 ^ (32 * m)) (show q + 1 ≤ 2 ^ (q.log2 + 1) by omega)
    rw [Nat.mul_add] at this
    omega
  have:=bitLen_of r1 r2
  omega
theorem bitLen_half {x : Nat} (h : x ≠ 0) : bitLen x = 1 + bitLen (x / 2):=by
  by_cases h2 : x / 2 = 0
  · have : x = 1:=by omega
    subst this; decide
  · have:=bitLen_shift x 1 (by simpa using h2)
    simpa using this
end Go.Proofs.YtjbbbkfdcegfmaaGreat

/- Sums and differences of rows of digits, as the reference reckons them. -/
namespace Go.Proofs.YtjbbbkfdcegfmaaGreat
open Go

/-- After so many digits: what is written, what is carried. -/
def addR (a b : List Int) : Nat → List Int × Int
  | 0=>([],0)
  | i + 1=>((addR a b i).1 ++ [((addR a b i).2 + gt a i + gt b i) % 4294967296],((addR a b i).2 + gt a i + gt b i) / 4294967296)
def subR (a b : List Int) : Nat → List Int × Int
  | 0=>([],0)
  | i + 1=>((subR a b i).1 ++ [(gt a i - ((subR a b i).2 + gt b i)) % 4294967296],if gt a i < (subR a b i).2 + gt b i then 1 else 0)
def addO (a b : List Int) : List Int:=(addR a b a.length).1 ++ (if (addR a b a.length).2 > 0 then [(addR a b a.length).2 % 4294967296] else [])
def addS (a b : List Int) : List Int:=if a.length < b.length then addO b a else addO a b
def subS (a b : List Int) : List Int:=(subR a b a.length).1

theorem addR_spec {a b : List Int} (da : Dig 4294967296 a) (db : Dig 4294967296 b) : ∀ i,(addR a b i).1.length = i ∧ Dig 4294967296 (addR a b i).1 ∧ 0 ≤ (addR a b i).2 ∧ (addR a b i).2 ≤ 1 ∧
    val 4294967296 (addR a b i).1 + (addR a b i).2 * (4294967296 : Int) ^ i = val 4294967296 (a.take i) + val 4294967296 (b.take i)
  | 0=>by simp [addR,val,Dig.nil]
  | i + 1=>by
    obtain ⟨h1,h2,h3,h4,h5⟩:=addR_spec da db i
    have ga:=da.gt (by omega) i
    have gb:=db.gt (by omega) i
    simp only [addR]
    generalize (addR a b i).2 = c at *
    generalize (addR a b i).1 = o at *
    refine ⟨by simp [h1],h2.append (Dig.cons (by omega) (by omega) (Dig.nil _)),by omega,by omega,?_⟩
    rw [val_append,val_take32,val_take32,h1,Int.pow_succ]
    simp only [val]
    have:=Int.emod_add_mul_ediv (c + gt a i + gt b i) 4294967296
    grind

theorem addO_spec {a b : List Int} (da : Dig 4294967296 a) (db : Dig 4294967296 b) (h : b.length ≤ a.length) : Dig 4294967296 (addO a b) ∧ (addO a b).length ≤ a.length + 1 ∧ val 4294967296 (addO a b) = val 4294967296 a + val 4294967296 b:=by
  obtain ⟨h1,h2,h3,h4,h5⟩:=addR_spec da db a.length
  rw [val_take_all (Nat.le_refl _),val_take_all h] at h5
  unfold addO
  generalize (addR a b a.length).2 = c at *
  generalize (addR a b a.length).1 = o at *
  split
  · refine ⟨h2.append (Dig.cons (by omega) (by omega) (Dig.nil _)),by simp [h1],?_⟩
    rw [val_append,h1]
    simp only [val]
    have : c = 1:=by omega
    subst this
    have e : (1 : Int) % 4294967296 = 1:=rfl
    rw [e]
    have e2 : ((4294967296 : Nat) : Int) = (4294967296 : Int):=rfl
    rw [e2]; omega
  · have : c = 0:=by omega
    subst this
    exact ⟨by simpa using h2,by simp [h1],by simp; omega⟩
theorem addS_spec {a b : List Int} (da : Dig 4294967296 a) (db : Dig 4294967296 b) : Dig 4294967296 (addS a b) ∧ (addS a b).length ≤ max a.length b.length + 1 ∧ val 4294967296 (addS a b) = val 4294967296 a + val 4294967296 b:=by
  unfold addS
  split
  · have:=addO_spec db da (by omega)
    exact ⟨this.1,by omega,by omega⟩
  · have:=addO_spec da db (by omega)
    exact ⟨this.1,by omega,by omega⟩

theorem subR_spec {a b : List Int} (da : Dig 4294967296 a) (db : Dig 4294967296 b) : ∀ i,(subR a b i).1.length = i ∧ Dig 4294967296 (subR a b i).1 ∧ 0 ≤ (subR a b i).2 ∧ (subR a b i).2 ≤ 1 ∧
    val 4294967296 (subR a b i).1 - (subR a b i).2 * (4294967296 : Int) ^ i = val 4294967296 (a.take i) - val 4294967296 (b.take i)
  | 0=>by simp [subR,val,Dig.nil]
  | i + 1=>by
    obtain ⟨h1,h2,h3,h4,h5⟩:=subR_spec da db i
    have ga:=da.gt (by omega) i
    have gb:=db.gt (by omega) i
    simp only [subR]
    generalize (subR a b i).2 = c at *
    generalize (subR a b i).1 = o at *
    refine ⟨by simp [h1],h2.append (Dig.cons (by omega) (by omega) (Dig.nil _)),by split <;> omega,by split <;> omega,?_⟩
    rw [val_append,val_take32,val_take32,h1,Int.pow_succ]
    simp only [val]
    have e : (gt a i - (c + gt b i)) % 4294967296 = gt a i - (c + gt b i) + 4294967296 * (if gt a i < c + gt b i then (1 : Int) else 0):=by split <;> omega
    rw [e]
    grind
theorem subS_spec {a b : List Int} (da : Dig 4294967296 a) (db : Dig 4294967296 b) (h : b.length ≤ a.length) (hv : val 4294967296 b ≤ val 4294967296 a) : Dig 4294967296 (subS a b) ∧ (subS a b).length = a.length ∧ val 4294967296 (subS a b) = val 4294967296 a - val 4294967296 b:=by
  obtain ⟨h1,h2,h3,h4,h5⟩:=subR_spec da db a.length
  rw [val_take_all (Nat.le_refl _),val_take_all h] at h5
  unfold subS
  have h6:=val_lt32 h2
  rw [h1] at h6
  generalize (subR a b a.length).2 = c at *
  generalize (subR a b a.length).1 = o at *
  refine ⟨h2,h1,?_⟩
  have : c = 0 ∨ c = 1:=by omega
  rcases this with rfl | rfl
  · omega
  · exfalso; omega
end Go.Proofs.YtjbbbkfdcegfmaaGreat

/- A row of digits moved up by bits, as the reference reckons it. -/
namespace Go.Proofs.YtjbbbkfdcegfmaaGreat
open Go

def leftR (d : List Int) (p : Int) : Nat → List Int × Int
  | 0=>([],0)
  | i + 1=>((leftR d p i).1 ++ [((leftR d p i).2 + gt d i * p) % 4294967296],((leftR d p i).2 + gt d i * p) / 4294967296)

theorem leftR_spec {d : List Int} (dd : Dig 4294967296 d) {p : Int} (hp : 1 ≤ p) : ∀ i,(leftR d p i).1.length = i ∧ Dig 4294967296 (leftR d p i).1 ∧ 0 ≤ (leftR d p i).2 ∧ (leftR d p i).2 < p ∧
    val 4294967296 (leftR d p i).1 + (leftR d p i).2 * (4294967296 : Int) ^ i = val 4294967296 (d.take i) * p
  | 0=>by simp [leftR,val,Dig.nil]; omega
  | i + 1=>by
    obtain ⟨h1,h2,h3,h4,h5⟩:=leftR_spec dd hp i
    have gd:=dd.gt (by omega) i
    simp only [leftR]
    generalize (leftR d p i).2 = c at *
    generalize (leftR d p i).1 = o at *
    have hm : gt d i * p ≤ 4294967295 * p:=Int.mul_le_mul_of_nonneg_right (by omega) (by omega)
    have hm0 : 0 ≤ gt d i * p:=Int.mul_nonneg gd.1 (by omega)
    refine ⟨by simp [h1],h2.append (Dig.cons (by omega) (by omega) (Dig.nil _)),by omega,by omega,?_⟩
    rw [val_append,val_take32,h1,Int.pow_succ]
    simp only [val]
    have:=Int.emod_add_mul_ediv (c + gt d i * p) 4294967296
    grind

def leftL (d : List Int) (q : Nat) (p : Int) : List Int:=List.replicate q 0 ++ (leftR d p d.length).1 ++ (if (leftR d p d.length).2 > 0 then [(leftR d p d.length).2 % 4294967296] else [])
theorem leftL_spec {d : List Int} (dd : Dig 4294967296 d) (q : Nat) {p : Int} (hp : 1 ≤ p) (hp2 : p ≤ 2147483648) : Dig 4294967296 (leftL d q p) ∧ (leftL d q p).length ≤ q + d.length + 1 ∧ val 4294967296 (leftL d q p) = (4294967296 : Int) ^ q * (val 4294967296 d * p):=by
  obtain ⟨h1,h2,h3,h4,h5⟩:=leftR_spec dd hp d.length
  rw [val_take_all (Nat.le_refl _)] at h5
  unfold leftL
  generalize (leftR d p d.length).2 = c at *
  generalize (leftR d p d.length).1 = o at *
  have hr : Dig 4294967296 (List.replicate q (0 : Int)):=Dig.replicate _ (by omega) (by omega)
  split
  · refine ⟨(hr.append h2).append (Dig.cons (by omega) (by omega) (Dig.nil _)),by simp [h1]; omega,?_⟩
    rw [val_append,val_append,val_replicate]
    simp only [List.length_append,List.length_replicate,h1,val]
    have e : c % 4294967296 = c:=Int.emod_eq_of_lt h3 (by omega)
    rw [e,Int.pow_add]
    have e2 : ((4294967296 : Nat) : Int) = (4294967296 : Int):=rfl
    rw [e2]
    grind
  · have : c = 0:=by omega
    subst this
    refine ⟨by simpa using hr.append h2,by simp [h1],?_⟩
    rw [List.append_nil,val_append,val_replicate]
    simp only [List.length_replicate]
    have e2 : ((4294967296 : Nat) : Int) = (4294967296 : Int):=rfl
    rw [e2]
    grind
/-- Or of parts that do not meet. -/
theorem or_join {c d : Int} {k : Nat} (hc0 : 0 ≤ c) (hc : c < 2 ^ k) (hd : 0 ≤ d) (ht : d * 2 ^ k < 18446744073709551616) (hc2 : c < 18446744073709551616) : bits .or .u64 c (d * 2 ^ k) = c + d * 2 ^ k:=by
  have hp : (0 : Int) < 2 ^ k:=Int.pow_pos (by omega)
  have h0 : 0 ≤ d * 2 ^ k:=Int.mul_nonneg hd (by omega)
  rw [u64_or c _ hc0 hc2 h0 ht]
  obtain ⟨C,rfl⟩:=Int.eq_ofNat_of_zero_le hc0
  obtain ⟨D,rfl⟩:=Int.eq_ofNat_of_zero_le hd
  have e : ((D : Int) * 2 ^ k).toNat = D * 2 ^ k:=by
    have : (D : Int) * 2 ^ k = ((D * 2 ^ k : Nat) : Int):=by simp
    rw [this,Int.toNat_natCast]
  have hC : C < 2 ^ k:=by
    have : ((2 ^ k : Nat) : Int) = (2 : Int) ^ k:=by simp
    omega
  rw [e,Int.toNat_natCast,Nat.or_comm,nat_join k (D * 2 ^ k) C (by simp) hC]
  push_cast
  omega
end Go.Proofs.YtjbbbkfdcegfmaaGreat

/- Division bit by bit, as the reference reckons it. -/
namespace Go.Proofs.YtjbbbkfdcegfmaaGreat
open Go

theorem pow2_pos (k : Nat) : (0 : Int) < 2 ^ k:=Int.pow_pos (by omega)
theorem pow2_cast (k : Nat) : ((2 ^ k : Nat) : Int) = (2 : Int) ^ k:=by simp
theorem pow2_32 (q : Nat) : (4294967296 : Int) ^ q = 2 ^ (32 * q):=by rw [Int.pow_mul]; rfl
theorem shl_val (v : Int) (i : Nat) : (4294967296 : Int) ^ (i / 32) * (v * 2 ^ (i % 32)) = v * 2 ^ i:=by
  have e : (2 : Int) ^ i = 2 ^ (32 * (i / 32)) * 2 ^ (i % 32):=by rw [← Int.pow_add]; congr 1; omega
  rw [pow2_32,e]; grind
/-- A bit that is not set yet. -/
theorem u32_or_bit {x : Int} {k : Nat} (h0 : 0 ≤ x) (h1 : x < 4294967296) (hk : k < 32) (hm : x % 2 ^ (k + 1) = 0) : bits .or .u32 x (2 ^ k) = x + 2 ^ k ∧ x + 2 ^ k < 4294967296 ∧ (2 : Int) ^ k < 4294967296:=by
  have hp:=pow2_pos k
  have e32 : (4294967296 : Int) = 2 ^ (31 - k) * 2 ^ (k + 1) := by rw [← Int.pow_add]; have : 31 - k + (k + 1) = 32 := by omega
                                                                   rw [this]; rfl
  have hs : (2 : Int) ^ (k + 1) = 2 ^ k * 2:=Int.pow_succ _ _
  have hp1:=pow2_pos (k + 1)
  have hle : x + 2 ^ (k + 1) ≤ 4294967296:=by
    obtain ⟨m,hm'⟩:=Int.dvd_of_emod_eq_zero hm
    have h2 : m < 2 ^ (31 - k):=by
      rcases Int.lt_or_le m (2 ^ (31 - k)) with h | h
      · exact h
      · exfalso
        have:=Int.mul_le_mul_of_nonneg_left h (show (0 : Int) ≤ 2 ^ (k + 1) by omega)
        rw [Int.mul_comm (2 ^ (k + 1)) (2 ^ (31 - k)),← e32,← hm'] at this
        omega
    have:=Int.mul_le_mul_of_nonneg_left (show m + 1 ≤ 2 ^ (31 - k) by omega) (show (0 : Int) ≤ 2 ^ (k + 1) by omega)
    rw [Int.mul_comm (2 ^ (k + 1)) (2 ^ (31 - k)),← e32,Int.mul_add,← hm'] at this
    omega
  refine ⟨?_,by omega,by omega⟩
  rw [u32_or x _ h0 h1 (by omega) (by omega)]
  obtain ⟨X,rfl⟩:=Int.eq_ofNat_of_zero_le h0
  have e : ((2 : Int) ^ k).toNat = 2 ^ k:=by rw [← pow2_cast,Int.toNat_natCast]
  have hm2 : X % 2 ^ (k + 1) = 0:=by
    have : ((X % 2 ^ (k + 1) : Nat) : Int) = 0:=by rw [Int.natCast_emod,pow2_cast]; exact hm
    omega
  rw [e,Int.toNat_natCast,nat_join (k + 1) X (2 ^ k) hm2 (Nat.pow_lt_pow_right (by omega) (by omega))]
  simp

def QLow (q : List Int) (i : Nat) : Prop:=(∀ j,j < i / 32 → gt q j = 0) ∧ gt q (i / 32) % 2 ^ (i % 32) = 0
theorem QLow.bit {q : List Int} {i : Nat} (h : QLow q (i + 1)) : (∀ j,j < i / 32 → gt q j = 0) ∧ gt q (i / 32) % 2 ^ (i % 32 + 1) = 0:=by
  obtain ⟨h1,h2⟩:=h
  refine ⟨fun j hj=>h1 j (by omega),?_⟩
  by_cases h : i % 32 = 31
  · have:=h1 (i / 32) (by omega)
    rw [this]; simp
  · have e1 : (i + 1) / 32 = i / 32:=by omega
    have e2 : (i + 1) % 32 = i % 32 + 1:=by omega
    rwa [e1,e2] at h2
theorem mod_half {x : Int} {k : Nat} (h : x % 2 ^ (k + 1) = 0) : x % 2 ^ k = 0:=by
  obtain ⟨m,hm⟩:=Int.dvd_of_emod_eq_zero h
  refine Int.emod_eq_zero_of_dvd ⟨2 * m,?_⟩
  rw [hm,Int.pow_succ]; grind
structure DvS (A D : Int) (q : List Int) (R : Int) (i : Nat) : Prop where
  dig : Dig 4294967296 q
  low : QLow q i
  eq : A = val 4294967296 q * D + R
  nn : 0 ≤ R
  lt : R < D * 2 ^ i
theorem DvS.skip {A D R : Int} {q : List Int} {i : Nat} (h : DvS A D q R (i + 1)) (hl : R < D * 2 ^ i) : DvS A D q R i :=
  ⟨h.dig,⟨h.low.bit.1,mod_half h.low.bit.2⟩,h.eq,h.nn,hl⟩
theorem DvS.or {A D R : Int} {q : List Int} {i : Nat} (h : DvS A D q R (i + 1)) : bits .or .u32 (gt q (i / 32)) (2 ^ (i % 32)) = gt q (i / 32) + 2 ^ (i % 32) ∧ gt q (i / 32) + 2 ^ (i % 32) < 4294967296 ∧ (2 : Int) ^ (i % 32) < 4294967296 :=
  u32_or_bit (h.dig.gt (by omega) _).1 (h.dig.gt (by omega) _).2 (by omega) h.low.bit.2
theorem DvS.take {A D R : Int} {q : List Int} {i : Nat} (h : DvS A D q R (i + 1)) (hl : D * 2 ^ i ≤ R) (hi : i / 32 < q.length) : DvS A D (q.set (i / 32) (gt q (i / 32) + 2 ^ (i % 32))) (R - D * 2 ^ i) i:=by
  have g:=h.dig.gt (by omega) (i / 32)
  have o:=h.or
  have hp:=pow2_pos (i % 32)
  refine ⟨h.dig.set _ (by omega) (by omega),⟨fun j hj=>?_,?_⟩,?_,by omega,?_⟩
  · rw [gt_set_ne (by omega)]; exact h.low.bit.1 j hj
  · rw [gt_set hi]
    rw [Int.add_emod_right]; exact mod_half h.low.bit.2
  · have e1:=h.eq
    have e2:=shl_val 1 i
    rw [val_setC hi]
    have e3 : gt q (i / 32) + 2 ^ (i % 32) - gt q (i / 32) = 2 ^ (i % 32):=by omega
    rw [e3]
    simp only [Int.one_mul] at e2
    rw [e2]; grind
  · have:=h.lt
    rw [Int.pow_succ] at this
    have e : D * (2 ^ i * 2) = D * 2 ^ i + D * 2 ^ i:=by grind
    omega
theorem DvS.start {a d n : Nat} (hd : d ≠ 0) (hn : bitLen a = bitLen d + n) : DvS a d (List.replicate (n / 32 + 1) 0) a (n + 1):=by
  have hg : ∀ m j,gt (List.replicate m (0 : Int)) j = 0:=fun m j=>by
    unfold gt; rw [List.getElem?_replicate]; split <;> rfl
  refine ⟨Dig.replicate _ (by omega) (by omega),⟨fun j _=>hg _ _,by rw [hg]; simp⟩,by rw [val_replicate]; simp,by omega,?_⟩
  have h1 : a < 2 ^ (bitLen d + n):=bitLen_le.1 (by omega)
  have h2 : 2 ^ (bitLen d - 1) ≤ d:=by
    rcases Nat.lt_or_ge d (2 ^ (bitLen d - 1)) with h | h
    · have h3:=bitLen_le.2 h
      have : bitLen d ≠ 0:=fun h4=>by
        have:=bitLen_le.1 (show bitLen d ≤ 0 by omega)
        simp at this; omega
      omega
    · exact h
  have h5 : bitLen d ≠ 0:=fun h4=>by
    have:=bitLen_le.1 (show bitLen d ≤ 0 by omega)
    simp at this; omega
  have h3 : 2 ^ (bitLen d - 1) * 2 ^ (n + 1) ≤ d * 2 ^ (n + 1):=Nat.mul_le_mul_right _ h2
  rw [← Nat.pow_add] at h3
  have e : bitLen d - 1 + (n + 1) = bitLen d + n:=by omega
  rw [e] at h3
  have h4 : a < d * 2 ^ (n + 1):=by omega
  have h6 : (a : Int) < ((d * 2 ^ (n + 1) : Nat) : Int):=by omega
  rw [Int.natCast_mul,pow2_cast] at h6
  exact h6
theorem DvS.done {a d : Nat} {q : List Int} {R : Int} (h : DvS a d q R 0) : val 4294967296 q = ((a / d : Nat) : Int) ∧ R = ((a % d : Nat) : Int):=by
  have h1:=h.eq; have h2:=h.nn; have h3:=h.lt
  simp only [Int.pow_zero,Int.mul_one] at h3
  have h4:=val_nonneg h.dig
  obtain ⟨Q,hQ⟩:=Int.eq_ofNat_of_zero_le h4
  obtain ⟨r,rfl⟩:=Int.eq_ofNat_of_zero_le h2
  rw [hQ] at h1 ⊢
  have e : a = d * Q + r:=by
    have : (a : Int) = ((d * Q + r : Nat) : Int):=by rw [h1]; push_cast; grind
    omega
  have hr : r < d:=by omega
  refine ⟨?_,?_⟩
  · congr 1; rw [e]
    rw [Nat.mul_add_div (by omega),Nat.div_eq_of_lt hr]; rfl
  · congr 1; rw [e,Nat.mul_add_mod,Nat.mod_eq_of_lt hr]
theorem bitLen_ne {d : Nat} (hd : d ≠ 0) : 0 < bitLen d:=by
  rcases Nat.eq_zero_or_pos (bitLen d) with h | h
  · have:=bitLen_le.1 (show bitLen d ≤ 0 by omega)
    simp at this; omega
  · exact h
theorem bitLen_lt {a d : Nat} (h : bitLen a < bitLen d) : a < d:=by
  rcases Nat.lt_or_ge a d with h2 | h2
  · exact h2
  · have h3 : a < 2 ^ bitLen a:=bitLen_le.1 (Nat.le_refl _)
    have:=bitLen_le.2 (show d < 2 ^ bitLen a by omega)
    omega
theorem dg_len_mono {a b : Int} (h : a.natAbs ≤ b.natAbs) : (dg a).length ≤ (dg b).length:=by
  rcases Nat.lt_or_ge (dg b).length (dg a).length with h1 | h1
  · have:=can_len_lt (B:=4294967296) (by omega) (dg_dig b) (dg_dig a) (dg_can a) h1
    rw [dg_val,dg_val] at this; omega
  · exact h1
end Go.Proofs.YtjbbbkfdcegfmaaGreat

/- Division of 128 bits by 64, in halves. -/
namespace Go.Proofs.YtjbbbkfdcegfmaaGreat
open Go

structure DvH (y1 y0 u un q r : Int) : Prop where
  e : u = q * y1 + r
  r0 : 0 ≤ r
  q0 : 0 ≤ q
  qm : q ≤ 4294967297
  lt : u * 4294967296 + un < (q + 1) * (y1 * 4294967296 + y0)
theorem DvH.start {y1 y0 u un : Int} (hy1 : 2147483648 ≤ y1) (hy0 : 0 ≤ y0) (hy : y0 < 4294967296) (hu0 : 0 ≤ u) (hu : u < y1 * 4294967296 + y0) (hun : un < 4294967296) :
    DvH y1 y0 u un (u / y1) (u - u / y1 * y1):=by
  have h1:=Int.mul_ediv_add_emod u y1
  have h2:=Int.emod_nonneg u (show y1 ≠ 0 by omega)
  have h3:=Int.emod_lt_of_pos u (show 0 < y1 by omega)
  have h4 : 0 ≤ u / y1:=Int.ediv_nonneg hu0 (by omega)
  generalize u / y1 = q at *
  generalize u % y1 = r at *
  have e : y1 * q = q * y1:=Int.mul_comm _ _
  refine ⟨by omega,by omega,h4,?_,?_⟩
  · rcases Int.lt_or_le q 4294967298 with h | h
    · omega
    · exfalso
      have:=Int.mul_le_mul_of_nonneg_right h (show 0 ≤ y1 by omega)
      omega
  · have e2 : (q + 1) * (y1 * 4294967296 + y0) = q * y1 * 4294967296 + q * y0 + y1 * 4294967296 + y0:=by grind
    have e3 : 0 ≤ q * y0:=Int.mul_nonneg h4 hy0
    rw [e2]; omega
theorem DvH.pos {y1 y0 u un q r : Int} (h : DvH y1 y0 u un q r) (hun : 0 ≤ un) (hc : 4294967296 ≤ q ∨ 4294967296 * r + un < q * y0) : 1 ≤ q:=by
  rcases hc with hc | hc
  · omega
  · have:=h.r0; have:=h.q0
    rcases Int.lt_or_le q 1 with h1 | h1
    · have : q = 0:=by omega
      subst this; omega
    · exact h1
theorem DvH.step {y1 y0 u un q r : Int} (h : DvH y1 y0 u un q r) (hy1 : 2147483648 ≤ y1) (hy0 : 0 ≤ y0) (hun : 0 ≤ un) (hun2 : un < 4294967296) (hu : u < y1 * 4294967296 + y0) (hc : 4294967296 ≤ q ∨ 4294967296 * r + un < q * y0) :
    DvH y1 y0 u un (q - 1) (r + y1):=by
  have hp:=h.pos hun hc
  have h1:=h.e; have h2:=h.r0; have h3:=h.qm
  refine ⟨by grind,by omega,by omega,by omega,?_⟩
  have e : (q - 1 + 1) * (y1 * 4294967296 + y0) = q * y1 * 4294967296 + q * y0:=by grind
  rw [e]
  rcases hc with hc | hc
  · have:=Int.mul_le_mul_of_nonneg_right hc (show 0 ≤ y1 * 4294967296 + y0 by omega)
    have e2 : q * (y1 * 4294967296 + y0) = q * y1 * 4294967296 + q * y0:=by grind
    omega
  · omega
theorem DvH.out {y1 y0 u un q r : Int} (h : DvH y1 y0 u un q r) (hy1 : 2147483648 ≤ y1) (hy0 : 0 ≤ y0) (hy : y0 < 4294967296) (hun : 0 ≤ un) (hun2 : un < 4294967296) (hu : u < y1 * 4294967296 + y0)
    (hc : (q < 4294967296 ∧ q * y0 ≤ 4294967296 * r + un) ∨ (4294967296 ≤ r ∧ q ≤ 4294967296)) :
    0 ≤ u * 4294967296 + un - q * (y1 * 4294967296 + y0) ∧ u * 4294967296 + un - q * (y1 * 4294967296 + y0) < y1 * 4294967296 + y0 ∧ q < 4294967296:=by
  have h1:=h.e; have h2:=h.r0; have h3:=h.lt
  have e : q * (y1 * 4294967296 + y0) = q * y1 * 4294967296 + q * y0:=by grind
  have e2 : (q + 1) * (y1 * 4294967296 + y0) = q * (y1 * 4294967296 + y0) + (y1 * 4294967296 + y0):=by grind
  rw [e2] at h3
  have hle : q * (y1 * 4294967296 + y0) ≤ u * 4294967296 + un:=by
    rw [e]
    rcases hc with ⟨_,hc⟩ | ⟨hc,hc2⟩
    · omega
    · have:=Int.mul_le_mul hc2 (show y0 ≤ 4294967295 by omega) hy0 (by omega)
      omega
  refine ⟨by omega,by omega,?_⟩
  rcases Int.lt_or_le q 4294967296 with h4 | h4
  · exact h4
  · have:=Int.mul_le_mul_of_nonneg_right h4 (show 0 ≤ y1 * 4294967296 + y0 by omega)
    omega
theorem div_of {N y Q R : Int} (h : N = Q * y + R) (h0 : 0 ≤ R) (h1 : R < y) : N / y = Q ∧ N % y = R:=by
  have hy : y ≠ 0:=by omega
  subst h
  refine ⟨?_,?_⟩
  · rw [Int.add_comm,Int.add_mul_ediv_right _ _ hy,Int.ediv_eq_zero_of_lt h0 h1]; omega
  · rw [Int.add_comm,Int.add_mul_emod_self_right]; exact Int.emod_eq_of_lt h0 h1
theorem dv_fin {N y p u un1 un0 q1 q0 R1 R0 : Int} (hp : 0 < p) (h1 : u * 4294967296 + un1 - q1 * (y * p) = R1) (h2 : R1 * 4294967296 + un0 - q0 * (y * p) = R0)
    (hN : N * p = (u * 4294967296 + un1) * 4294967296 + un0) (h0 : 0 ≤ R0) (hlt : R0 < y * p) : N / y = q1 * 4294967296 + q0 ∧ N % y = R0 / p:=by
  have e : R0 = p * (N - (q1 * 4294967296 + q0) * y):=by grind
  have e2 : R0 / p = N - (q1 * 4294967296 + q0) * y:=by rw [e]; exact Int.mul_ediv_cancel_left _ (by omega)
  rw [e2]
  generalize hR : N - (q1 * 4294967296 + q0) * y = R at *
  refine div_of (by grind) ?_ ?_
  · rcases Int.lt_or_le R 0 with h | h
    · exfalso
      have:=Int.mul_neg_of_pos_of_neg hp h
      omega
    · exact h
  · rcases Int.lt_or_le R y with h | h
    · exact h
    · exfalso
      have:=Int.mul_le_mul_of_nonneg_left h (show 0 ≤ p by omega)
      rw [Int.mul_comm p y] at this
      omega
theorem bitLen_top2 {y : Nat} (hy : y ≠ 0) : 2 ^ (bitLen y - 1) ≤ y ∧ y < 2 ^ bitLen y:=by
  refine ⟨?_,bitLen_le.1 (Nat.le_refl _)⟩
  rcases Nat.lt_or_ge y (2 ^ (bitLen y - 1)) with h | h
  · have h3:=bitLen_le.2 h
    have:=bitLen_ne hy
    omega
  · exact h
theorem or_join' {c d : Int} {k : Nat} (hc0 : 0 ≤ c) (hc : c < 2 ^ k) (hd : 0 ≤ d) (ht : d * 2 ^ k < 18446744073709551616) (hc2 : c < 18446744073709551616) : bits .or .u64 (d * 2 ^ k) c = d * 2 ^ k + c:=by
  have hp:=pow2_pos k
  have h0 : 0 ≤ d * 2 ^ k:=Int.mul_nonneg hd (by omega)
  rw [u64_or _ _ h0 ht hc0 hc2,Nat.or_comm,← u64_or _ _ hc0 hc2 h0 ht,or_join hc0 hc hd ht hc2]; omega
theorem dv_norm {hi lo : Int} {y : Nat} (h0 : 0 ≤ hi) (h1 : hi < y) (hl0 : 0 ≤ lo) (hl : lo < 18446744073709551616) (hy : y < 18446744073709551616) :
    ∃ (S : Nat) (p Y U X : Int),bitLen y + S = 64 ∧ S ≤ 63 ∧ p = 2 ^ S ∧ 0 < p ∧ (y : Int) * 2 ^ S = Y ∧ Y = y * p ∧ 9223372036854775808 ≤ Y ∧ Y < 18446744073709551616 ∧ 0 ≤ hi * 2 ^ S ∧ hi * 2 ^ S < 18446744073709551616 ∧
      bits .or .u64 (hi * 2 ^ S) (lo / 2 ^ (64 - S)) = U ∧ 0 ≤ U ∧ U < Y ∧ lo * 2 ^ S % 18446744073709551616 = X ∧ (hi * 18446744073709551616 + lo) * p = U * 18446744073709551616 + X:=by
  have hy0 : y ≠ 0:=by omega
  have hb:=bitLen_ne hy0
  have hb2 : bitLen y ≤ 64:=bitLen_le.2 (by omega)
  obtain ⟨t1,t2⟩:=bitLen_top2 hy0
  generalize hS : 64 - bitLen y = S
  have e1 : bitLen y + S = 64:=by omega
  have hpn:=Nat.two_pow_pos S
  have y1 : 2 ^ (bitLen y - 1) * 2 ^ S ≤ y * 2 ^ S:=Nat.mul_le_mul_right _ t1
  have y2 : y * 2 ^ S < 2 ^ bitLen y * 2 ^ S:=Nat.mul_lt_mul_of_pos_right t2 hpn
  rw [← Nat.pow_add,show bitLen y - 1 + S = 63 by omega] at y1
  rw [← Nat.pow_add,e1] at y2
  have ey : ((y * 2 ^ S : Nat) : Int) = (y : Int) * 2 ^ S:=by rw [Int.natCast_mul,pow2_cast]
  have hp:=pow2_pos S
  have hT:=pow2_pos (64 - S)
  have hpT : (2 : Int) ^ S * 2 ^ (64 - S) = 18446744073709551616:=by rw [← Int.pow_add,show S + (64 - S) = 64 by omega]; rfl
  have hY1 : 9223372036854775808 ≤ (y : Int) * 2 ^ S:=by rw [← ey]; omega
  have hY2 : (y : Int) * 2 ^ S < 18446744073709551616:=by rw [← ey]; omega
  have hhi : 0 ≤ hi * 2 ^ S:=Int.mul_nonneg h0 (by omega)
  have hhi2 : (hi + 1) * 2 ^ S ≤ y * 2 ^ S:=Int.mul_le_mul_of_nonneg_right (by omega) (by omega)
  have d1:=Int.mul_ediv_add_emod lo (2 ^ (64 - S))
  have d2:=Int.emod_nonneg lo (show (2 : Int) ^ (64 - S) ≠ 0 by omega)
  have d3:=Int.emod_lt_of_pos lo hT
  have d4 : 0 ≤ lo / 2 ^ (64 - S):=Int.ediv_nonneg hl0 (by omega)
  have d5 : lo / 2 ^ (64 - S) < 2 ^ S:=Int.ediv_lt_of_lt_mul hT (by rw [hpT]; exact hl)
  have ee : (hi + 1) * 2 ^ S = hi * 2 ^ S + 2 ^ S:=by grind
  have hor:=or_join' (k:=S) d4 d5 h0 (by omega) (by omega)
  refine ⟨S,2 ^ S,_,_,_,e1,by omega,rfl,hp,rfl,rfl,hY1,hY2,hhi,by omega,hor,by omega,by omega,rfl,?_⟩
  generalize lo / 2 ^ (64 - S) = a at *
  generalize lo % 2 ^ (64 - S) = b at *
  generalize (2 : Int) ^ (64 - S) = T at *
  generalize (2 : Int) ^ S = p at *
  have f1 : lo * p = a * 18446744073709551616 + b * p:=by rw [← hpT,← d1]; grind
  have f2 : b * p < 18446744073709551616:=by
    have:=Int.mul_lt_mul_of_pos_right d3 hp
    rw [Int.mul_comm T p,hpT] at this; exact this
  have f3 : 0 ≤ b * p:=Int.mul_nonneg d2 (by omega)
  have f4 : lo * p % 18446744073709551616 = b * p:=by rw [f1]; omega
  rw [f4,Int.add_mul,f1]; grind
end Go.Proofs.YtjbbbkfdcegfmaaGreat

/- Division of words, a word of the quotient after the other. -/
namespace Go.Proofs.YtjbbbkfdcegfmaaGreat
open Go

theorem val_gt_drop (l : List Int) (i : Nat) : val 18446744073709551616 (l.drop i) = gt l i + 18446744073709551616 * val 18446744073709551616 (l.drop (i + 1)):=by
  by_cases h : i < l.length
  · rw [List.drop_eq_getElem_cons h]
    have e : gt l i = l[i]:=by simp [gt,h]
    rw [e]; simp only [val]; rfl
  · have e : gt l i = 0:=by unfold gt; rw [List.getElem?_eq_none (by omega)]; rfl
    rw [List.drop_of_length_le (by omega),List.drop_of_length_le (by omega),e]; simp [val]
theorem val_split (l : List Int) (i : Nat) : val 18446744073709551616 l = val 18446744073709551616 (l.take i) + (18446744073709551616 : Int) ^ i * val 18446744073709551616 (l.drop i):=by
  by_cases h : i ≤ l.length
  · have:=val_append (B:=18446744073709551616) (l.take i) (l.drop i)
    rw [List.take_append_drop,List.length_take,Nat.min_eq_left h] at this
    exact this
  · rw [List.take_of_length_le (by omega),List.drop_of_length_le (by omega)]; simp [val]
theorem val_drop_split (l : List Int) (j i : Nat) : val 18446744073709551616 (l.drop j) = val 18446744073709551616 ((l.drop j).take i) + (18446744073709551616 : Int) ^ i * val 18446744073709551616 (l.drop (j + i)):=by
  have:=val_split (l.drop j) i
  rw [List.drop_drop] at this; exact this
theorem powB_pos (i : Nat) : (0 : Int) < 18446744073709551616 ^ i:=Int.pow_pos (by omega)
theorem val_ltB {l : List Int} (h : Dig 18446744073709551616 l) {n : Nat} (hn : l.length ≤ n) : val 18446744073709551616 l < (18446744073709551616 : Int) ^ n:=by
  have h1:=val_lt64 h
  have h2 : (18446744073709551616 : Nat) ^ l.length ≤ 18446744073709551616 ^ n:=Nat.pow_le_pow_right (by omega) hn
  have h3 : ∀ k,(18446744073709551616 : Int) ^ k = ((18446744073709551616 ^ k : Nat) : Int):=fun k=>by simp
  rw [h3] at h1 ⊢; omega
/-- A row of words of which a window has been changed. -/
structure Win (u0 u : List Int) (j n : Nat) (X : Int) : Prop where
  dig : Dig 18446744073709551616 u
  len : u.length = u0.length
  tk : u.take j = u0.take j
  dr : u.drop (j + n + 1) = u0.drop (j + n + 1)
  eq : val 18446744073709551616 u = val 18446744073709551616 u0 + (18446744073709551616 : Int) ^ j * X
theorem Win.refl {u : List Int} (h : Dig 18446744073709551616 u) (j n : Nat) : Win u u j n 0:=⟨h,rfl,rfl,rfl,by simp⟩
theorem Win.set {u0 u : List Int} {j n i : Nat} {X X' v : Int} (h : Win u0 u j n X) (hi : i ≤ n) (hk : j + i < u.length) (h0 : 0 ≤ v) (h1 : v < 18446744073709551616)
    (hX : X' = X + (18446744073709551616 : Int) ^ i * (v - gt u (j + i))) : Win u0 (u.set (j + i) v) j n X':=by
  refine ⟨h.dig.set _ h0 h1,by simp [h.len],?_,?_,?_⟩
  · rw [List.take_set_of_le (by omega)]; exact h.tk
  · rw [List.drop_set_of_lt (by omega)]; exact h.dr
  · rw [val_setB hk,h.eq,hX,Int.pow_add]; grind
theorem Win.cast {u0 u : List Int} {j n : Nat} {X X' : Int} (h : Win u0 u j n X) (e : X' = X) : Win u0 u j n X':=e ▸ h
theorem Win.val {u0 u : List Int} {j n : Nat} {X : Int} (h : Win u0 u j n X) : val 18446744073709551616 (u.drop j) = val 18446744073709551616 (u0.drop j) + X:=by
  have h1:=h.eq
  rw [val_split u j,val_split u0 j,h.tk] at h1
  have hp:=powB_pos j
  have h2 : (18446744073709551616 : Int) ^ j * Go.Proofs.YtjbbbkfdcegfmaaGreat.val 18446744073709551616 (u.drop j) = (18446744073709551616 : Int) ^ j * (Go.Proofs.YtjbbbkfdcegfmaaGreat.val 18446744073709551616 (u0.drop j) + X):=by grind
  exact Int.eq_of_mul_eq_mul_left (by omega) h2
theorem Win.lt {u0 u : List Int} {j n : Nat} {X : Int} (h : Win u0 u j n X) (hz : Go.Proofs.YtjbbbkfdcegfmaaGreat.val 18446744073709551616 (u0.drop (j + n + 1)) = 0) :
    0 ≤ Go.Proofs.YtjbbbkfdcegfmaaGreat.val 18446744073709551616 (u0.drop j) + X ∧ Go.Proofs.YtjbbbkfdcegfmaaGreat.val 18446744073709551616 (u0.drop j) + X < (18446744073709551616 : Int) ^ (n + 1):=by
  rw [← h.val]
  refine ⟨val_nonneg (h.dig.drop j),?_⟩
  have h1:=val_drop_split u j (n + 1)
  have e : j + (n + 1) = j + n + 1:=by omega
  rw [e,h.dr,hz] at h1
  have h2:=val_ltB ((h.dig.drop j).take (n + 1)) (n:=n + 1) (by simp; omega)
  rw [Int.mul_zero] at h1; omega
/-- Ahead of the step at j. -/
structure Kn (A V : Int) (u out : List Int) (j : Nat) : Prop where
  dig : Dig 18446744073709551616 u
  eq : A = val 18446744073709551616 u + V * val 18446744073709551616 out
  hi : val 18446744073709551616 (u.drop j) < V
  dout : Dig 18446744073709551616 out
  oz : ∀ i,i < j → gt out i = 0
theorem Kn.top {A V : Int} {u out : List Int} {j n : Nat} (h : Kn A V u out (j + 1)) (hV : V ≤ (18446744073709551616 : Int) ^ n) : val 18446744073709551616 (u.drop (j + n + 1)) = 0:=by
  have h1:=val_drop_split u (j + 1) n
  have h2:=h.hi
  have h3:=val_nonneg ((h.dig.drop (j + 1)).take n)
  have h4:=val_nonneg (h.dig.drop (j + 1 + n))
  have e : j + 1 + n = j + n + 1:=by omega
  rw [e] at h1 h4
  rcases Int.lt_or_le 0 (val 18446744073709551616 (u.drop (j + n + 1))) with h5 | h5
  · exfalso
    have:=Int.mul_le_mul_of_nonneg_left (show 1 ≤ val 18446744073709551616 (u.drop (j + n + 1)) by omega) (show 0 ≤ (18446744073709551616 : Int) ^ n from Int.le_of_lt (powB_pos n))
    rw [Int.mul_one] at this; omega
  · omega
theorem Kn.wide {A V : Int} {u out : List Int} {j : Nat} (h : Kn A V u out (j + 1)) : val 18446744073709551616 (u.drop j) < 18446744073709551616 * V:=by
  rw [val_gt_drop]
  have:=h.dig.gt (by omega) j
  have:=h.hi
  omega
theorem Kn.step {A V q : Int} {u u' out : List Int} {j n : Nat} (h : Kn A V u out (j + 1)) (w : Win u u' j n (-(q * V))) (hq0 : 0 ≤ q) (hq : q < 18446744073709551616) (hlt : val 18446744073709551616 (u.drop j) < (q + 1) * V) (hj : j < out.length) :
    Kn A V u' (out.set j q) j:=by
  refine ⟨w.dig,?_,?_,h.dout.set _ hq0 hq,fun i hi=>?_⟩
  · have h1:=h.eq; have h2:=w.eq
    rw [val_setB hj,h.oz j (by omega),h2]; grind
  · rw [w.val]
    have : (q + 1) * V = q * V + V:=by grind
    omega
  · rw [gt_set_ne (by omega)]; exact h.oz i (by omega)
/-- A guess of a word of the quotient. -/
structure Qh (W V u1 u2 v1 q r : Int) : Prop where
  e : u1 * 18446744073709551616 + u2 = q * v1 + r
  r0 : 0 ≤ r
  rB : r < 18446744073709551616
  q0 : 0 ≤ q
  qB : q < 18446744073709551616
  lt : W < (q + 1) * V
theorem win_lt {u : List Int} (d : Dig 18446744073709551616 u) {j m : Nat} (hz : val 18446744073709551616 (u.drop (j + (m + 2) + 1)) = 0) :
    val 18446744073709551616 (u.drop j) < ((gt u (j + m + 2) * 18446744073709551616 + gt u (j + m + 1)) * 18446744073709551616 + gt u (j + m) + 1) * (18446744073709551616 : Int) ^ m:=by
  have h1:=val_drop_split u j m
  have h2:=val_gt_drop u (j + m)
  have h3:=val_gt_drop u (j + m + 1)
  have h4:=val_gt_drop u (j + m + 1 + 1)
  have e : j + m + 1 + 1 + 1 = j + (m + 2) + 1:=by omega
  have e2 : j + m + 1 + 1 = j + m + 2:=by omega
  rw [e,hz,e2] at h4
  rw [e2] at h3
  have h5:=val_ltB ((d.drop j).take m) (n:=m) (by simp; omega)
  generalize val 18446744073709551616 (u.drop j) = W at *
  generalize val 18446744073709551616 (List.take m (u.drop j)) = T at *
  generalize val 18446744073709551616 (u.drop (j + m)) = X1 at *
  generalize val 18446744073709551616 (u.drop (j + m + 1)) = X2 at *
  generalize val 18446744073709551616 (u.drop (j + m + 2)) = X3 at *
  generalize (18446744073709551616 : Int) ^ m = P at *
  have e3 : X1 = (gt u (j + m + 2) * 18446744073709551616 + gt u (j + m + 1)) * 18446744073709551616 + gt u (j + m):=by omega
  rw [← e3,h1]; grind
theorem top_ge {v : List Int} (d : Dig 18446744073709551616 v) {m : Nat} : (gt v (m + 1) * 18446744073709551616 + gt v m) * (18446744073709551616 : Int) ^ m ≤ val 18446744073709551616 v:=by
  have h1:=val_split v m
  have h2:=val_gt_drop v m
  have h3:=val_gt_drop v (m + 1)
  have h4:=val_nonneg (d.take m)
  have h5:=val_nonneg (d.drop (m + 1 + 1))
  have hp:=powB_pos m
  generalize val 18446744073709551616 v = V at *
  generalize val 18446744073709551616 (v.take m) = T at *
  generalize val 18446744073709551616 (v.drop m) = X1 at *
  generalize val 18446744073709551616 (v.drop (m + 1)) = X2 at *
  generalize val 18446744073709551616 (v.drop (m + 1 + 1)) = X3 at *
  generalize (18446744073709551616 : Int) ^ m = P at *
  have e : gt v (m + 1) * 18446744073709551616 + gt v m ≤ X1:=by omega
  have:=Int.mul_le_mul_of_nonneg_right e (show 0 ≤ P by omega)
  have e2 : X1 * P = P * X1:=Int.mul_comm _ _
  omega
theorem Qh.start {W V u1 u2 u3 v1 v2 P : Int} (hP : 0 < P) (hW : W < ((u1 * 18446744073709551616 + u2) * 18446744073709551616 + u3 + 1) * P) (hV : (v1 * 18446744073709551616 + v2) * P ≤ V)
    (h1 : 0 ≤ u1) (h1v : u1 < v1) (hv1 : v1 < 18446744073709551616) (h2 : 0 ≤ u2) (h2B : u2 < 18446744073709551616) (h3 : u3 < 18446744073709551616) (hv2 : 0 ≤ v2) :
    Qh W V u1 u2 v1 ((u1 * 18446744073709551616 + u2) / v1) ((u1 * 18446744073709551616 + u2) % v1):=by
  have e1:=Int.mul_ediv_add_emod (u1 * 18446744073709551616 + u2) v1
  have e2:=Int.emod_nonneg (u1 * 18446744073709551616 + u2) (show v1 ≠ 0 by omega)
  have e3:=Int.emod_lt_of_pos (u1 * 18446744073709551616 + u2) (show 0 < v1 by omega)
  have e4 : 0 ≤ (u1 * 18446744073709551616 + u2) / v1:=Int.ediv_nonneg (by omega) (by omega)
  have e5 : (u1 * 18446744073709551616 + u2) / v1 < 18446744073709551616:=Int.ediv_lt_of_lt_mul (by omega) (by omega)
  generalize (u1 * 18446744073709551616 + u2) / v1 = q at *
  generalize (u1 * 18446744073709551616 + u2) % v1 = r at *
  have ec : v1 * q = q * v1:=Int.mul_comm _ _
  refine ⟨by omega,e2,by omega,e4,e5,?_⟩
  have f1 : (u1 * 18446744073709551616 + u2) * 18446744073709551616 + u3 + 1 ≤ (q + 1) * (v1 * 18446744073709551616 + v2):=by
    have g1 : (q + 1) * (v1 * 18446744073709551616 + v2) = q * v1 * 18446744073709551616 + v1 * 18446744073709551616 + q * v2 + v2:=by grind
    have g2 : 0 ≤ q * v2:=Int.mul_nonneg e4 hv2
    rw [g1]; omega
  have f2:=Int.mul_le_mul_of_nonneg_right f1 (show 0 ≤ P by omega)
  have f3:=Int.mul_le_mul_of_nonneg_left hV (show 0 ≤ q + 1 by omega)
  rw [← Int.mul_assoc] at f3
  omega
theorem Qh.step {W V u1 u2 u3 v1 v2 P q r : Int} (h : Qh W V u1 u2 v1 q r) (hP : 0 < P) (hW : W < ((u1 * 18446744073709551616 + u2) * 18446744073709551616 + u3 + 1) * P) (hV : (v1 * 18446744073709551616 + v2) * P ≤ V)
    (h3 : 0 ≤ u3) (hc : r * 18446744073709551616 + u3 < q * v2) : 1 ≤ q ∧ W < (q - 1 + 1) * V ∧ u1 * 18446744073709551616 + u2 = (q - 1) * v1 + (r + v1):=by
  have e1:=h.e; have e2:=h.r0; have e3:=h.q0
  refine ⟨?_,?_,by grind⟩
  · rcases Int.lt_or_le q 1 with h1 | h1
    · have : q = 0:=by omega
      subst this; omega
    · exact h1
  · have f1 : (u1 * 18446744073709551616 + u2) * 18446744073709551616 + u3 + 1 ≤ q * (v1 * 18446744073709551616 + v2):=by
      have g1 : q * (v1 * 18446744073709551616 + v2) = q * v1 * 18446744073709551616 + q * v2:=by grind
      rw [g1]; omega
    have f2:=Int.mul_le_mul_of_nonneg_right f1 (show 0 ≤ P by omega)
    have f3:=Int.mul_le_mul_of_nonneg_left hV e3
    rw [← Int.mul_assoc] at f3
    have e : q - 1 + 1 = q:=by omega
    rw [e]; omega
end Go.Proofs.YtjbbbkfdcegfmaaGreat

/- A row of words moved up by bits; moved down again. -/
namespace Go.Proofs.YtjbbbkfdcegfmaaGreat
open Go Go.RowKit

def shR (d : List Int) (p : Int) : Nat → List Int × Int
  | 0=>([],0)
  | i + 1=>((shR d p i).1 ++ [((shR d p i).2 + gt d i * p) % 18446744073709551616],((shR d p i).2 + gt d i * p) / 18446744073709551616)
theorem shR_spec {d : List Int} (dd : Dig 18446744073709551616 d) {p : Int} (hp : 1 ≤ p) : ∀ i,(shR d p i).1.length = i ∧ Dig 18446744073709551616 (shR d p i).1 ∧ 0 ≤ (shR d p i).2 ∧ (shR d p i).2 < p ∧
    val 18446744073709551616 (shR d p i).1 + (shR d p i).2 * (18446744073709551616 : Int) ^ i = val 18446744073709551616 (d.take i) * p
  | 0=>by simp [shR,val,Dig.nil]; omega
  | i + 1=>by
    obtain ⟨h1,h2,h3,h4,h5⟩:=shR_spec dd hp i
    have gd:=dd.gt (by omega) i
    simp only [shR]
    generalize (shR d p i).2 = c at *
    generalize (shR d p i).1 = o at *
    have hm : gt d i * p ≤ 18446744073709551615 * p:=Int.mul_le_mul_of_nonneg_right (by omega) (by omega)
    have hm0 : 0 ≤ gt d i * p:=Int.mul_nonneg gd.1 (by omega)
    refine ⟨by simp [h1],h2.append (Dig.cons (by omega) (by omega) (Dig.nil _)),by omega,by omega,?_⟩
    rw [val_append,val_take64,h1,Int.pow_succ]
    simp only [val]
    have:=Int.emod_add_mul_ediv (c + gt d i * p) 18446744073709551616
    grind
/-- The row while it is made. -/
def shS (d : List Int) (p : Int) (i : Nat) : List Int:=(shR d p i).1 ++ (shR d p i).2 :: List.replicate (d.length - i) 0
def shW (d : List Int) (p : Int) : List Int:=shS d p d.length
theorem shS_len {d : List Int} (dd : Dig 18446744073709551616 d) {p : Int} (hp : 1 ≤ p) {i : Nat} (hi : i ≤ d.length) : (shS d p i).length = d.length + 1:=by
  have:=(shR_spec dd hp i).1
  simp [shS,this]; omega
theorem shS_gt {d : List Int} (dd : Dig 18446744073709551616 d) {p : Int} (hp : 1 ≤ p) (i : Nat) : gt (shS d p i) i = (shR d p i).2:=by
  have:=(shR_spec dd hp i).1
  unfold gt shS
  rw [List.getElem?_append_right (by omega),this,Nat.sub_self]; rfl
theorem shS_step {d : List Int} (dd : Dig 18446744073709551616 d) {p : Int} (hp : 1 ≤ p) {i : Nat} (hi : i < d.length) :
    ((shS d p i).set i (((shR d p i).2 + gt d i * p) % 18446744073709551616)).set (i + 1) (((shR d p i).2 + gt d i * p) / 18446744073709551616) = shS d p (i + 1):=by
  have h1:=(shR_spec dd hp i).1
  unfold shS
  simp only [shR]
  generalize (shR d p i).2 = c at *
  generalize (shR d p i).1 = o at *
  have e : d.length - i = (d.length - (i + 1)) + 1:=by omega
  rw [e,List.replicate_succ,List.set_append_right _ _ (by omega),h1,Nat.sub_self,List.set_cons_zero,List.set_append_right _ _ (by omega),h1]
  rw [show i + 1 - i = 1 by omega,List.set_cons_succ,List.set_cons_zero]
  simp
theorem shS_step0 {d : List Int} (dd : Dig 18446744073709551616 d) {p : Int} (hp : 1 ≤ p) {i : Nat} (hi : i < d.length) (hc : ((shR d p i).2 + gt d i * p) / 18446744073709551616 = 0) :
    (shS d p i).set i (((shR d p i).2 + gt d i * p) % 18446744073709551616) = shS d p (i + 1):=by
  have h1:=(shR_spec dd hp i).1
  unfold shS
  simp only [shR,hc]
  generalize (shR d p i).2 = c at *
  generalize (shR d p i).1 = o at *
  have e : d.length - i = (d.length - (i + 1)) + 1:=by omega
  rw [e,List.replicate_succ,List.set_append_right _ _ (by omega),h1,Nat.sub_self,List.set_cons_zero]
  simp
theorem shW_spec {d : List Int} (dd : Dig 18446744073709551616 d) {p : Int} (hp : 1 ≤ p) (hp2 : p ≤ 18446744073709551616) : Dig 18446744073709551616 (shW d p) ∧ (shW d p).length = d.length + 1 ∧ val 18446744073709551616 (shW d p) = val 18446744073709551616 d * p:=by
  obtain ⟨h1,h2,h3,h4,h5⟩:=shR_spec dd hp d.length
  rw [val_take_all (Nat.le_refl _)] at h5
  refine ⟨?_,shS_len dd hp (Nat.le_refl _),?_⟩
  · unfold shW shS
    rw [Nat.sub_self]
    exact h2.append (Dig.cons h3 (by omega) (Dig.nil _))
  · unfold shW shS
    rw [Nat.sub_self,val_append,h1]
    simp only [List.replicate_zero,val]
    rw [← h5]
    have e : ((18446744073709551616 : Nat) : Int) = (18446744073709551616 : Int):=rfl
    rw [e]; grind
theorem sh_step {x c : Int} {s : Nat} (hs : s ≤ 63) (hx0 : 0 ≤ x) (hx : x < 18446744073709551616) (hc0 : 0 ≤ c) (hc : c < 2 ^ s) :
    bits .or .u64 c (x * 2 ^ s % 18446744073709551616) = (c + x * 2 ^ s) % 18446744073709551616 ∧ x / 2 ^ (64 - s) = (c + x * 2 ^ s) / 18446744073709551616:=by
  have hp:=pow2_pos s
  have hT:=pow2_pos (64 - s)
  have hpT : (2 : Int) ^ s * 2 ^ (64 - s) = 18446744073709551616:=by rw [← Int.pow_add,show s + (64 - s) = 64 by omega]; rfl
  have hps : (2 : Int) ^ s ≤ 9223372036854775808:=by
    have : (2 : Nat) ^ s ≤ 2 ^ 63:=Nat.pow_le_pow_right (by omega) hs
    rw [← pow2_cast]; omega
  have d1:=Int.mul_ediv_add_emod x (2 ^ (64 - s))
  have d2:=Int.emod_nonneg x (show (2 : Int) ^ (64 - s) ≠ 0 by omega)
  have d3:=Int.emod_lt_of_pos x hT
  have d4 : 0 ≤ x / 2 ^ (64 - s):=Int.ediv_nonneg hx0 (by omega)
  generalize x / 2 ^ (64 - s) = a at *
  generalize x % 2 ^ (64 - s) = b at *
  have f2 : (b + 1) * 2 ^ s ≤ 18446744073709551616:=by
    have:=Int.mul_le_mul_of_nonneg_right (show b + 1 ≤ 2 ^ (64 - s) by omega) (show (0 : Int) ≤ 2 ^ s by omega)
    rw [Int.mul_comm (2 ^ (64 - s)) (2 ^ s),hpT] at this; exact this
  have f3 : 0 ≤ b * 2 ^ s:=Int.mul_nonneg d2 (by omega)
  have f4 : (b + 1) * 2 ^ s = b * 2 ^ s + 2 ^ s:=by grind
  have f1 : x * 2 ^ s = a * 18446744073709551616 + b * 2 ^ s:=by rw [← hpT,← d1]; grind
  have f5 : x * 2 ^ s % 18446744073709551616 = b * 2 ^ s:=by rw [f1]; omega
  rw [f5,or_join hc0 hc d2 (by omega) (by omega),f1]
  refine ⟨by omega,by omega⟩
/-- The row moved down: what stands above comes in. -/
theorem val_down {l : List Int} (dl : Dig 18446744073709551616 l) {s : Nat} (hs : s ≤ 63) {Q : Int} (hv : val 18446744073709551616 l = Q * 2 ^ s) {o : List Int} (hl : o.length = l.length) (ho : ∀ i,i < l.length → gt o i = gt l i / 2 ^ s + gt l (i + 1) % 2 ^ s * 2 ^ (64 - s)) :
    val 18446744073709551616 o = Q:=by
  have hp:=pow2_pos s
  have hT:=pow2_pos (64 - s)
  have hpT : (2 : Int) ^ s * 2 ^ (64 - s) = 18446744073709551616:=by rw [← Int.pow_add,show s + (64 - s) = 64 by omega]; rfl
  have key : ∀ i,i ≤ l.length → val 18446744073709551616 (o.take i) * 2 ^ s + gt l 0 % 2 ^ s = val 18446744073709551616 (l.take i) + (18446744073709551616 : Int) ^ i * (gt l i % 2 ^ s):=by
    intro i
    induction i with
    | zero=>intro _; simp [val]
    | succ i ih =>
      intro hi
      have h1:=ih (by omega)
      rw [val_take64,val_take64,ho i (by omega),Int.pow_succ]
      have d1:=Int.mul_ediv_add_emod (gt l i) (2 ^ s)
      generalize gt l i / 2 ^ s = a at *
      generalize gt l i % 2 ^ s = b at *
      generalize gt l (i + 1) % 2 ^ s = c at *
      generalize (18446744073709551616 : Int) ^ i = P at *
      generalize val 18446744073709551616 (o.take i) = X at *
      generalize val 18446744073709551616 (l.take i) = Y at *
      rw [← hpT,← d1]
      grind
  have h0:=key l.length (Nat.le_refl _)
  rw [val_take_all (by omega),val_take_all (Nat.le_refl _),gt_ge (Nat.le_refl _),hv] at h0
  rw [Int.zero_emod,Int.mul_zero,Int.add_zero] at h0
  have hg : gt l 0 % 2 ^ s = 0:=by
    have e1 : gt l 0 % 2 ^ s = (Q - val 18446744073709551616 o) * 2 ^ s:=by grind
    have h2:=Int.emod_nonneg (gt l 0) (show (2 : Int) ^ s ≠ 0 by omega)
    have h3:=Int.emod_lt_of_pos (gt l 0) hp
    rw [e1] at h2 h3
    have h4 : Q - val 18446744073709551616 o = 0:=by
      rcases Int.lt_or_le (Q - val 18446744073709551616 o) 0 with h | h
      · have:=Int.mul_neg_of_neg_of_pos h hp; omega
      · rcases Int.lt_or_le 0 (Q - val 18446744073709551616 o) with h' | h'
        · have:=Int.mul_le_mul_of_nonneg_right (show 1 ≤ Q - val 18446744073709551616 o by omega) (show (0 : Int) ≤ 2 ^ s by omega)
          omega
        · omega
    rw [e1,h4]; simp
  have h5 : val 18446744073709551616 o * 2 ^ s = Q * 2 ^ s:=by omega
  exact Int.eq_of_mul_eq_mul_right (by omega) h5
theorem wd_pln (k : IntKind) (l : List Int) : ∀ r ∈ wd k l,∀ x ∈ r,pln x:=by
  intro r hr x hx
  simp only [wd,List.mem_map] at hr
  obtain ⟨n,_,rfl⟩:=hr
  simp only [List.mem_singleton] at hx
  subst hx; trivial
end Go.Proofs.YtjbbbkfdcegfmaaGreat

/- Division of words: how it begins, its loops, how it ends. -/
namespace Go.Proofs.YtjbbbkfdcegfmaaGreat
open Go Go.RowKit

theorem mag_len_mono {a b : Int} (h : a.natAbs ≤ b.natAbs) : (mag a).length ≤ (mag b).length:=by
  rcases Nat.lt_or_ge (mag b).length (mag a).length with h1 | h1
  · have:=can_len_lt (B:=18446744073709551616) (by omega) (mag_dig b) (mag_dig a) (mag_can a) h1
    rw [mag_val,mag_val] at this; omega
  · exact h1
theorem powB_two (i : Nat) : (18446744073709551616 : Int) ^ i = 2 ^ (64 * i):=by rw [Int.pow_mul]; rfl
theorem mag_top {d m : Nat} (hn : (mag (d : Int)).length = m + 1) : gt (mag (d : Int)) m ≠ 0:=by
  intro h
  have hc:=mag_can (d : Int)
  refine hc ?_
  rw [List.getLast?_eq_getElem?,hn,Nat.add_sub_cancel,gt_some (by omega),h]
theorem gt_zeros (k i : Nat) : gt (List.replicate k (0 : Int)) i = 0:=by
  unfold gt; rw [List.getElem?_replicate]; split <;> rfl
theorem dw_init {a d m : Nat} (had : d ≤ a) (hn : (mag (d : Int)).length = m + 2) : ∃ (t k : Nat) (p : Int) (Vl : List Int),gt (mag (d : Int)) (m + 1) = (t : Int) ∧ t < 18446744073709551616 ∧ bitLen t + k = 64 ∧ k ≤ 63 ∧ p = 2 ^ k ∧ 0 < p ∧
    Vl = (shW (mag (d : Int)) p).take (m + 2) ∧ Dig 18446744073709551616 Vl ∧ Vl.length = m + 2 ∧ val 18446744073709551616 Vl = d * p ∧ 0 < gt Vl (m + 1) ∧ d * p ≤ (18446744073709551616 : Int) ^ (m + 2) ∧
    (mag (d : Int)).length ≤ (mag (a : Int)).length ∧
    Kn (a * p) (d * p) (shW (mag (a : Int)) p) (List.replicate ((mag (a : Int)).length - (m + 2) + 1) 0) ((mag (a : Int)).length - (m + 2) + 1):=by
  have dd:=mag_dig (d : Int)
  have gd:=dd.gt (by omega) (m + 1)
  have ht0:=mag_top (m:=m + 1) (by omega : (mag (d : Int)).length = m + 1 + 1)
  obtain ⟨t,ht⟩:=Int.eq_ofNat_of_zero_le gd.1
  have hbl:=bitLen_top (d : Int) t (by omega) (by rw [hn]; exact ht)
  rw [hn,Int.natAbs_natCast] at hbl
  have ht1 : t ≠ 0:=by omega
  have hb1:=bitLen_ne ht1
  have hb2 : bitLen t ≤ 64:=bitLen_le.2 (by omega)
  have hlen : (mag (d : Int)).length ≤ (mag (a : Int)).length:=mag_len_mono (by simpa using had)
  have hd0 : d ≠ 0:=by intro h; subst h; rw [show ((0 : Nat) : Int) = 0 from rfl,mag_zero] at hn; simp at hn
  obtain ⟨q1,q2⟩:=bitLen_top2 hd0
  generalize hk : 64 - bitLen t = k
  have e1 : bitLen t + k = 64:=by omega
  have hp:=pow2_pos k
  have hp2 : (2 : Int) ^ k ≤ 18446744073709551616:=by
    have : (2 : Nat) ^ k ≤ 2 ^ 64:=Nat.pow_le_pow_right (by omega) (by omega)
    rw [← pow2_cast]; omega
  have sd:=shW_spec dd (show (1 : Int) ≤ 2 ^ k by omega) hp2
  have sa:=shW_spec (mag_dig (a : Int)) (show (1 : Int) ≤ 2 ^ k by omega) hp2
  rw [mag_val,Int.natAbs_natCast] at sd sa
  have u1 : d * 2 ^ k < 2 ^ (64 * (m + 2)):=by
    have:=Nat.mul_lt_mul_of_pos_right q2 (Nat.two_pow_pos k)
    rw [← Nat.pow_add] at this
    have e : bitLen d + k = 64 * (m + 2):=by omega
    rw [e] at this; exact this
  have u2 : 2 ^ (64 * (m + 1)) ≤ d * 2 ^ k:=by
    have:=Nat.mul_le_mul_right (2 ^ k) q1
    rw [← Nat.pow_add] at this
    have : 2 ^ (64 * (m + 1)) ≤ 2 ^ (bitLen d - 1 + k):=Nat.pow_le_pow_right (by omega) (by omega)
    omega
  have ec : ((d * 2 ^ k : Nat) : Int) = (d : Int) * 2 ^ k:=by rw [Int.natCast_mul,pow2_cast]
  have v1 : (d : Int) * 2 ^ k < 18446744073709551616 ^ (m + 2):=by rw [powB_two,← ec,← pow2_cast]; omega
  have v2 : (18446744073709551616 : Int) ^ (m + 1) ≤ (d : Int) * 2 ^ k:=by rw [powB_two,← ec,← pow2_cast]; omega
  have hsp:=val_split (shW (mag (d : Int)) (2 ^ k)) (m + 2)
  have hdr:=val_nonneg (sd.1.drop (m + 2))
  have htk:=val_nonneg (sd.1.take (m + 2))
  rw [sd.2.2] at hsp
  have hz : val 18446744073709551616 ((shW (mag (d : Int)) (2 ^ k)).drop (m + 2)) = 0:=by
    rcases Int.lt_or_le 0 (val 18446744073709551616 ((shW (mag (d : Int)) (2 ^ k)).drop (m + 2))) with h | h
    · exfalso
      have:=Int.mul_le_mul_of_nonneg_left (show 1 ≤ val 18446744073709551616 ((shW (mag (d : Int)) (2 ^ k)).drop (m + 2)) by omega) (Int.le_of_lt (powB_pos (m + 2)))
      rw [Int.mul_one] at this; omega
    · omega
  rw [hz,Int.mul_zero,Int.add_zero] at hsp
  have hVl : ((shW (mag (d : Int)) (2 ^ k)).take (m + 2)).length = m + 2:=by rw [List.length_take,sd.2.1,hn]; omega
  refine ⟨t,k,2 ^ k,_,ht,by omega,e1,by omega,rfl,hp,rfl,sd.1.take _,hVl,hsp.symm,?_,Int.le_of_lt v1,hlen,sa.1,?_,?_,Dig.replicate _ (by omega) (by omega),fun i _=>gt_zeros _ _⟩
  · have dV:=sd.1.take (m + 2)
    have g:=dV.gt (by omega) (m + 1)
    have hs2:=val_take64 ((shW (mag (d : Int)) (2 ^ k)).take (m + 2)) (m + 1)
    rw [val_take_all (by omega),← hsp] at hs2
    have hlt:=val_ltB (dV.take (m + 1)) (n:=m + 1) (by simp; omega)
    rcases Int.lt_or_le 0 (gt ((shW (mag (d : Int)) (2 ^ k)).take (m + 2)) (m + 1)) with h | h
    · exact h
    · exfalso
      have : gt ((shW (mag (d : Int)) (2 ^ k)).take (m + 2)) (m + 1) = 0:=by omega
      rw [this,Int.mul_zero] at hs2; omega
  · rw [sa.2.2,val_replicate]; simp
  · have hs3:=val_split (shW (mag (a : Int)) (2 ^ k)) ((mag (a : Int)).length - (m + 2) + 1)
    have hn3:=val_nonneg (sa.1.take ((mag (a : Int)).length - (m + 2) + 1))
    rw [sa.2.2] at hs3
    generalize val 18446744073709551616 ((shW (mag (a : Int)) (2 ^ k)).drop ((mag (a : Int)).length - (m + 2) + 1)) = X at *
    generalize val 18446744073709551616 ((shW (mag (a : Int)) (2 ^ k)).take ((mag (a : Int)).length - (m + 2) + 1)) = T at *
    rcases Int.lt_or_le X ((d : Int) * 2 ^ k) with h | h
    · exact h
    · exfalso
      have hJ:=powB_pos ((mag (a : Int)).length - (m + 2) + 1)
      have h1:=Int.mul_le_mul_of_nonneg_left h (Int.le_of_lt hJ)
      have ha:=val_lt64 (mag_dig (a : Int))
      rw [mag_val,Int.natAbs_natCast] at ha
      have hdv:=val_take64 (mag (d : Int)) (m + 1)
      rw [val_take_all (by omega),mag_val,Int.natAbs_natCast,ht] at hdv
      have hdn:=val_nonneg (dd.take (m + 1))
      have hB1:=powB_pos (m + 1)
      have h2 : (18446744073709551616 : Int) ^ (m + 1) ≤ d:=by
        have:=Int.mul_le_mul_of_nonneg_left (show (1 : Int) ≤ t by omega) (Int.le_of_lt hB1)
        rw [Int.mul_one] at this; omega
      have h3:=Int.mul_le_mul_of_nonneg_left h2 (Int.le_of_lt hJ)
      rw [← Int.pow_add,show (mag (a : Int)).length - (m + 2) + 1 + (m + 1) = (mag (a : Int)).length by omega] at h3
      have h4 : (a : Int) < 18446744073709551616 ^ ((mag (a : Int)).length - (m + 2) + 1) * d:=by omega
      have h5:=Int.mul_lt_mul_of_pos_right h4 hp
      rw [Int.mul_assoc] at h5
      omega
theorem dw_fin {a d : Nat} {p : Int} (hp : 0 < p) {u out : List Int} (h : Kn (a * p) (d * p) u out 0) : val 18446744073709551616 out = ((a / d : Nat) : Int) ∧ val 18446744073709551616 u = ((a % d : Nat) : Int) * p:=by
  have h1:=h.eq
  have h2:=h.hi
  rw [List.drop_zero] at h2
  have h3:=val_nonneg h.dig
  generalize val 18446744073709551616 out = Q at *
  have e : val 18446744073709551616 u = (a - Q * d) * p:=by grind
  rw [e] at h2 h3 ⊢
  have r0 : 0 ≤ (a : Int) - Q * d:=by
    rcases Int.lt_or_le ((a : Int) - Q * d) 0 with h | h
    · have:=Int.mul_neg_of_neg_of_pos h hp; omega
    · exact h
  have r1 : (a : Int) - Q * d < d:=by
    rcases Int.lt_or_le ((a : Int) - Q * d) d with h | h
    · exact h
    · have:=Int.mul_le_mul_of_nonneg_right h (Int.le_of_lt hp); omega
  obtain ⟨f1,f2⟩:=div_of (N:=(a : Int)) (y:=d) (Q:=Q) (R:=a - Q * d) (by omega) r0 r1
  rw [Int.natCast_ediv,Int.natCast_emod,f1,f2]
  exact ⟨rfl,rfl⟩
/-- A word times the guess taken away. -/
theorem win_sub {u0 u Vl : List Int} {j n i : Nat} {q br c : Int} (w : Win u0 u j n (-(q * val 18446744073709551616 (Vl.take i)) + 18446744073709551616 ^ i * (br + c))) (hi : i ≤ n) (hk : j + i < u.length) (dV : Dig 18446744073709551616 Vl)
    (hq0 : 0 ≤ q) (hq : q < 18446744073709551616) (hb0 : 0 ≤ br) (hb : br ≤ 1) (hc0 : 0 ≤ c) (hc : c < 18446744073709551616) :
    0 ≤ q * gt Vl i ∧ 0 ≤ q * gt Vl i / 18446744073709551616 + (q * gt Vl i % 18446744073709551616 + c) / 18446744073709551616 ∧ q * gt Vl i / 18446744073709551616 + (q * gt Vl i % 18446744073709551616 + c) / 18446744073709551616 < 18446744073709551616 ∧
    Win u0 (u.set (j + i) ((gt u (j + i) - (q * gt Vl i % 18446744073709551616 + c) % 18446744073709551616 - br) % 18446744073709551616)) j n (-(q * val 18446744073709551616 (Vl.take (i + 1))) + 18446744073709551616 ^ (i + 1) * ((if gt u (j + i) < (q * gt Vl i % 18446744073709551616 + c) % 18446744073709551616 + br then 1 else 0) + (q * gt Vl i / 18446744073709551616 + (q * gt Vl i % 18446744073709551616 + c) / 18446744073709551616))):=by
  have gv:=dV.gt (by omega) i
  have gu:=w.dig.gt (by omega) (j + i)
  have h0 : 0 ≤ q * gt Vl i:=Int.mul_nonneg hq0 gv.1
  have h1 : q * gt Vl i ≤ 18446744073709551615 * 18446744073709551615:=Int.mul_le_mul (by omega) (by omega) gv.1 (by omega)
  refine ⟨h0,by omega,by omega,?_⟩
  refine w.set hi hk (Int.emod_nonneg _ (by omega)) (Int.emod_lt_of_pos _ (by omega)) ?_
  rw [val_take64,Int.pow_succ]
  have key : (gt u (j + i) - (q * gt Vl i % 18446744073709551616 + c) % 18446744073709551616 - br) % 18446744073709551616 - gt u (j + i) = 18446744073709551616 * ((if gt u (j + i) < (q * gt Vl i % 18446744073709551616 + c) % 18446744073709551616 + br then 1 else 0) + (q * gt Vl i / 18446744073709551616 + (q * gt Vl i % 18446744073709551616 + c) / 18446744073709551616)) - q * gt Vl i - c - br:=by
    generalize q * gt Vl i = P at *
    split <;> omega
  generalize (gt u (j + i) - (q * gt Vl i % 18446744073709551616 + c) % 18446744073709551616 - br) % 18446744073709551616 - gt u (j + i) = D at *
  subst key
  grind
theorem win_sub_last {u0 u : List Int} {j n : Nat} {X br c : Int} (w : Win u0 u j n (X + 18446744073709551616 ^ n * (br + c))) (hk : j + n < u.length) (hb0 : 0 ≤ br) (hb : br ≤ 1) (hc0 : 0 ≤ c) (hc : c < 18446744073709551616) :
    Win u0 (u.set (j + n) ((gt u (j + n) - c - br) % 18446744073709551616)) j n (X + 18446744073709551616 ^ (n + 1) * (if gt u (j + n) < c + br then 1 else 0)):=by
  have gu:=w.dig.gt (by omega) (j + n)
  refine w.set (Nat.le_refl _) hk (Int.emod_nonneg _ (by omega)) (Int.emod_lt_of_pos _ (by omega)) ?_
  rw [Int.pow_succ]
  have key : (gt u (j + n) - c - br) % 18446744073709551616 - gt u (j + n) = 18446744073709551616 * (if gt u (j + n) < c + br then 1 else 0) - c - br:=by
    split <;> omega
  generalize (gt u (j + n) - c - br) % 18446744073709551616 - gt u (j + n) = D at *
  subst key
  grind
/-- The divisor added back. -/
theorem win_add {u0 u Vl : List Int} {j n i : Nat} {X c : Int} (w : Win u0 u j n (X + val 18446744073709551616 (Vl.take i) - 18446744073709551616 ^ i * c)) (hi : i ≤ n) (hk : j + i < u.length) (dV : Dig 18446744073709551616 Vl) (hc0 : 0 ≤ c) (hc : c ≤ 1) :
    0 ≤ (gt u (j + i) + gt Vl i + c) / 18446744073709551616 ∧ (gt u (j + i) + gt Vl i + c) / 18446744073709551616 ≤ 1 ∧
    Win u0 (u.set (j + i) ((gt u (j + i) + gt Vl i + c) % 18446744073709551616)) j n (X + val 18446744073709551616 (Vl.take (i + 1)) - 18446744073709551616 ^ (i + 1) * ((gt u (j + i) + gt Vl i + c) / 18446744073709551616)):=by
  have gv:=dV.gt (by omega) i
  have gu:=w.dig.gt (by omega) (j + i)
  refine ⟨by omega,by omega,?_⟩
  refine w.set hi hk (Int.emod_nonneg _ (by omega)) (Int.emod_lt_of_pos _ (by omega)) ?_
  rw [val_take64,Int.pow_succ]
  have key : (gt u (j + i) + gt Vl i + c) % 18446744073709551616 - gt u (j + i) = gt Vl i + c - 18446744073709551616 * ((gt u (j + i) + gt Vl i + c) / 18446744073709551616):=by omega
  generalize (gt u (j + i) + gt Vl i + c) % 18446744073709551616 - gt u (j + i) = D at *
  subst key
  grind
theorem win_add_last {u0 u : List Int} {j n : Nat} {X c : Int} (w : Win u0 u j n (X - 18446744073709551616 ^ n * c)) (hk : j + n < u.length) (hc0 : 0 ≤ c) (hc : c ≤ 1) :
    0 ≤ (gt u (j + n) + c) / 18446744073709551616 ∧ (gt u (j + n) + c) / 18446744073709551616 ≤ 1 ∧
    Win u0 (u.set (j + n) ((gt u (j + n) + c) % 18446744073709551616)) j n (X - 18446744073709551616 ^ (n + 1) * ((gt u (j + n) + c) / 18446744073709551616)):=by
  have gu:=w.dig.gt (by omega) (j + n)
  refine ⟨by omega,by omega,?_⟩
  refine w.set (Nat.le_refl _) hk (Int.emod_nonneg _ (by omega)) (Int.emod_lt_of_pos _ (by omega)) ?_
  rw [Int.pow_succ]
  have key : (gt u (j + n) + c) % 18446744073709551616 - gt u (j + n) = c - 18446744073709551616 * ((gt u (j + n) + c) / 18446744073709551616):=by omega
  generalize (gt u (j + n) + c) % 18446744073709551616 - gt u (j + n) = D at *
  subst key
  grind
end Go.Proofs.YtjbbbkfdcegfmaaGreat

/- Division by one word; the rest moved down. -/
namespace Go.Proofs.YtjbbbkfdcegfmaaGreat
open Go Go.RowKit

theorem ab_cast (q V P c : Int) : -((q - 1) * V) + P * (1 - c) = -(q * V) + P + V - P * c:=by grind
/-- An equation that omega is not to look at. -/
def TN (a b : Nat) : Prop:=a = b
theorem TN.i {a b : Nat} (h : a = b) : TN a b:=h
theorem TN.e {a b : Nat} (h : TN a b) : a = b:=h
theorem mag_one {d : Nat} (hn : (mag (d : Int)).length = 1) : gt (mag (d : Int)) 0 = d:=by
  have h:=val_take64 (mag (d : Int)) 0
  rw [val_take_all (by omega),mag_val,Int.natAbs_natCast] at h
  simp only [List.take_zero,val,Int.pow_zero,Int.one_mul,Int.zero_add] at h
  exact h.symm
theorem div1_step {A out : List Int} {i : Nat} {d r : Int} (dA : Dig 18446744073709551616 A) (dO : Dig 18446744073709551616 out) (hi : i < out.length) (hr0 : 0 ≤ r) (hr : r < d)
    (h : val 18446744073709551616 (A.drop (i + 1)) = d * val 18446744073709551616 (out.drop (i + 1)) + r) :
    0 ≤ (r * 18446744073709551616 + gt A i) / d ∧ (r * 18446744073709551616 + gt A i) / d < 18446744073709551616 ∧ 0 ≤ (r * 18446744073709551616 + gt A i) % d ∧ (r * 18446744073709551616 + gt A i) % d < d ∧
    val 18446744073709551616 (A.drop i) = d * val 18446744073709551616 ((out.set i ((r * 18446744073709551616 + gt A i) / d)).drop i) + (r * 18446744073709551616 + gt A i) % d:=by
  have ga:=dA.gt (by omega) i
  have e1:=Int.mul_ediv_add_emod (r * 18446744073709551616 + gt A i) d
  refine ⟨Int.ediv_nonneg (by omega) (by omega),Int.ediv_lt_of_lt_mul (by omega) (by omega),Int.emod_nonneg _ (by omega),Int.emod_lt_of_pos _ (by omega),?_⟩
  rw [val_gt_drop A i,val_gt_drop (out.set i _) i,gt_set hi,List.drop_set_of_lt (by omega),h]
  generalize (r * 18446744073709551616 + gt A i) / d = q at *
  generalize (r * 18446744073709551616 + gt A i) % d = s at *
  grind
theorem div1_fin {a d : Nat} {out : List Int} {r : Int} (hr0 : 0 ≤ r) (hr : r < d) (h : val 18446744073709551616 ((mag (a : Int)).drop 0) = d * val 18446744073709551616 (out.drop 0) + r) :
    val 18446744073709551616 out = ((a / d : Nat) : Int) ∧ r = ((a % d : Nat) : Int):=by
  rw [List.drop_zero,List.drop_zero,mag_val,Int.natAbs_natCast] at h
  obtain ⟨f1,f2⟩:=div_of (N:=(a : Int)) (y:=d) (Q:=val 18446744073709551616 out) (R:=r) (by rw [h,Int.mul_comm]) hr0 hr
  rw [Int.natCast_ediv,Int.natCast_emod,f1,f2]
  exact ⟨rfl,rfl⟩
theorem shl_low {x : Int} {k : Nat} (hk : k ≤ 64) : x * 2 ^ (64 - k) % 18446744073709551616 = x % 2 ^ k * 2 ^ (64 - k):=by
  have hpT : (2 : Int) ^ k * 2 ^ (64 - k) = 18446744073709551616:=by rw [← Int.pow_add,show k + (64 - k) = 64 by omega]; rfl
  rw [← hpT,Int.mul_comm x,Int.mul_comm (2 ^ k),Int.mul_emod_mul_of_pos _ _ (pow2_pos _),Int.mul_comm]
theorem or_down {x y : Int} {k : Nat} (hk : k ≤ 63) (hx0 : 0 ≤ x) (hx : x < 18446744073709551616) : bits .or .u64 (x / 2 ^ k) (y % 2 ^ k * 2 ^ (64 - k)) = x / 2 ^ k + y % 2 ^ k * 2 ^ (64 - k) ∧ 0 ≤ x / 2 ^ k + y % 2 ^ k * 2 ^ (64 - k) ∧ x / 2 ^ k + y % 2 ^ k * 2 ^ (64 - k) < 18446744073709551616:=by
  have hp:=pow2_pos k
  have hT:=pow2_pos (64 - k)
  have hpT : (2 : Int) ^ k * 2 ^ (64 - k) = 18446744073709551616:=by rw [← Int.pow_add,show k + (64 - k) = 64 by omega]; rfl
  have d2:=Int.emod_nonneg y (show (2 : Int) ^ k ≠ 0 by omega)
  have d3:=Int.emod_lt_of_pos y hp
  have d4 : 0 ≤ x / 2 ^ k:=Int.ediv_nonneg hx0 (by omega)
  have d5 : x / 2 ^ k < 2 ^ (64 - k):=Int.ediv_lt_of_lt_mul hp (by rw [Int.mul_comm,hpT]; exact hx)
  have d6 : x / 2 ^ k ≤ x:=Int.ediv_le_self _ hx0
  have f2:=Int.mul_le_mul_of_nonneg_right (show y % 2 ^ k + 1 ≤ 2 ^ k by omega) (Int.le_of_lt hT)
  rw [hpT] at f2
  have f3 : 0 ≤ y % 2 ^ k * 2 ^ (64 - k):=Int.mul_nonneg d2 (by omega)
  have f4 : (y % 2 ^ k + 1) * 2 ^ (64 - k) = y % 2 ^ k * 2 ^ (64 - k) + 2 ^ (64 - k):=by grind
  refine ⟨or_join d4 d5 d2 (by omega) (by omega),by omega,by omega⟩
theorem gt_take {l : List Int} {i m : Nat} (h : i < m) : gt (l.take m) i = gt l i:=by
  unfold gt; rw [List.getElem?_take_of_lt h]
theorem gt_trimW {l : List Int} (i : Nat) (h : i < (trimW l).length) : gt (trimW l) i = gt l i:=by
  induction hl : l.length generalizing l with
  | zero =>
    have : l = []:=List.length_eq_zero_iff.mp hl
    subst this; simp [trimW] at h
  | succ n ih =>
    rcases List.eq_nil_or_concat l with rfl | ⟨l',x,rfl⟩
    · simp at hl
    · rw [List.concat_eq_append] at *
      by_cases hx : x = 0
      · subst hx
        rw [trimW_concat_zero] at h ⊢
        rw [ih h (by simp at hl; omega)]
        have:=trimW_length l'
        unfold gt
        rw [List.getElem?_append_left (by omega)]
      · rw [trimW_concat_pos _ _ hx]
/-- What is left: trimmed, moved down, is the rest. -/
theorem rest_down {a d k n : Nat} {u o : List Int} (hk : k ≤ 63) (du : Dig 18446744073709551616 u) (hn : n ≤ u.length) (hu : val 18446744073709551616 u = ((a % d : Nat) : Int) * 2 ^ k) (hlt : val 18446744073709551616 u < (18446744073709551616 : Int) ^ n)
    (dO : Dig 18446744073709551616 o) (ho : (trimW (u.take n)).length ≤ o.length) (hs : ∀ x,x < (trimW (u.take n)).length → gt o x = gt (trimW (u.take n)) x / 2 ^ k + gt (trimW (u.take n)) (x + 1) % 2 ^ k * 2 ^ (64 - k)) :
    Dig 18446744073709551616 (o.take (trimW (u.take n)).length) ∧ trimW (o.take (trimW (u.take n)).length) = mag ((a % d : Nat) : Int):=by
  have dO2:=dO.take (trimW (u.take n)).length
  refine ⟨dO2,?_⟩
  rw [mag_of dO2]
  congr 1
  have hsp:=val_split u n
  have h0:=val_nonneg (du.take n)
  have h1:=val_nonneg (du.drop n)
  have hz : val 18446744073709551616 (u.drop n) = 0:=by
    rcases Int.lt_or_le 0 (val 18446744073709551616 (u.drop n)) with h | h
    · exfalso
      have:=Int.mul_le_mul_of_nonneg_left (show 1 ≤ val 18446744073709551616 (u.drop n) by omega) (Int.le_of_lt (powB_pos n))
      rw [Int.mul_one] at this; omega
    · omega
  rw [hz,Int.mul_zero,Int.add_zero] at hsp
  refine val_down (l:=trimW (u.take n)) (s:=k) (du.take n).trim hk (by rw [trimW_val,← hsp,hu]) (by simp; omega) fun i hi=>?_
  rw [gt_take hi]; exact hs i hi
theorem fz_wdt {id n : Nat} {k : IntKind} {l : List Int} (h : n ≤ l.length) : fz id (wd k l) (.osl id 0 n) = Wd k (l.take n):=by
  simp [fz,Wd,wd,List.map_take,h]
end Go.Proofs.YtjbbbkfdcegfmaaGreat

/- Points as the program and its reference hold them. -/
namespace Go.Proofs.YtjbbbkfdcegfmaaGreat
open Go Go.RowKit

structure W4 where
  a : Int
  b : Int
  c : Int
  d : Int
def W4.ok (x : W4) : Prop:=U64 x.a ∧ U64 x.b ∧ U64 x.c ∧ U64 x.d
def W4.v (x : W4) : Int:=sval x.a x.b x.c x.d
theorem W4.bg {x : W4} (h : x.ok) : Bg 4 x.v:=sval_bg h.1 h.2.1 h.2.2.1 h.2.2.2
structure Pt where
  x : W4
  y : W4
  w : W4
def Pt.ok (p : Pt) : Prop:=p.x.ok ∧ p.y.ok ∧ p.w.ok
def Pt.cells (p : Pt) : List AV:=[.int .u64 p.x.a,.int .u64 p.x.b,.int .u64 p.x.c,.int .u64 p.x.d,.int .u64 p.y.a,.int .u64 p.y.b,.int .u64 p.y.c,.int .u64 p.y.d,.int .u64 p.w.a,.int .u64 p.w.b,.int .u64 p.w.c,.int .u64 p.w.d]
def Pt.av (p : Pt) : AV:=.agg p.cells
/-- Parts of 80 bits at most. -/
def sm (x y w : Int) : Bool:=decide (bitLen x.natAbs ≤ 80) && (decide (bitLen y.natAbs ≤ 80) && decide (bitLen w.natAbs ≤ 80))
def Pt.good (p : Pt) : Bool:=decide (0 < p.w.v) && sm p.x.v p.y.v p.w.v && decide (Nat.gcd (Int.gcd p.x.v p.y.v) p.w.v.natAbs = 1)
def l3C (x y w : Int) : List AV:=[.bool (decide (x < 0)),Wd .u32 (dg x),.bool (decide (y < 0)),Wd .u32 (dg y),.bool (decide (w < 0)),Wd .u32 (dg w)]
def l3A (x y w : Int) : AV:=.agg (l3C x y w)
def spC (x y w : Int) : List AV:=[.bool (decide (x < 0)),Wd .u64 (mag x),.bool (decide (y < 0)),Wd .u64 (mag y),.bool (decide (w < 0)),Wd .u64 (mag w)]
def spA (x y w : Int) : AV:=.agg (spC x y w)
theorem one_cmp (g : Int) : ((if g < 1 then (-1 : Int) else if g > 1 then 1 else 0) == 0) = decide (g = 1):=by
  by_cases h : g = 1
  · subst h; rfl
  · rw [decide_eq_false h]
    split
    · rfl
    · split
      · rfl
      · exfalso; omega
/-- The greatest divisor of all. -/
def gcdL (zs : List Int) : Nat:=zs.foldl (fun g z=>Nat.gcd g z.natAbs) 0
def numC (z : Int) : List AV:=[.bool (decide (z < 0)),Wd .u64 (mag z)]
theorem gcdL_three (x y w : Int) : gcdL [x,y,w] = Nat.gcd (Int.gcd x y) w.natAbs:=by
  simp [gcdL,Int.gcd]
theorem Bg.gcd {j : Nat} {a b : Nat} (ha : Bg j (a : Int)) (hb : Bg j (b : Int)) : Bg j ((Nat.gcd a b : Nat) : Int):=by
  rcases Nat.eq_zero_or_pos a with h | h
  · subst h; rw [Nat.gcd_zero_left]; exact hb
  · have:=Nat.gcd_le_left b h
    unfold Bg at *
    rw [Int.natAbs_natCast] at *
    omega
theorem gcdL_bg {j : Nat} (zs : List Int) (h : ∀ z ∈ zs,Bg j z) (i : Nat) : Bg j ((gcdL (zs.take i) : Nat) : Int):=by
  have key : ∀ (l : List Int) (g : Nat),(∀ z ∈ l,Bg j z) → Bg j (g : Int) → Bg j ((l.foldl (fun g z=>Nat.gcd g z.natAbs) g : Nat) : Int):=by
    intro l
    induction l with
    | nil=>intro g _ hg; exact hg
    | cons z r ih=>intro g hl hg; exact ih _ (fun y hy=>hl y (by simp [hy])) (Bg.gcd hg (hl z (by simp)).abs)
  refine key _ _ (fun z hz=>h z (List.mem_of_mem_take hz)) ?_
  unfold Bg; exact Nat.pow_pos (by omega)
theorem gcdL_succ (zs : List Int) {i : Nat} (h : i < zs.length) : gcdL (zs.take (i + 1)) = Nat.gcd (gcdL (zs.take i)) (gt zs i).natAbs:=by
  have e:=take_succ_gt h
  rw [e]; simp [gcdL,List.foldl_append]
theorem max_sm (x y w : Int) : decide ((if (if bitLen x.natAbs < bitLen y.natAbs then (bitLen y.natAbs : Int) else (bitLen x.natAbs : Int)) < (bitLen w.natAbs : Int) then (bitLen w.natAbs : Int) else if bitLen x.natAbs < bitLen y.natAbs then (bitLen y.natAbs : Int) else (bitLen x.natAbs : Int)) ≤ 80) = sm x y w:=by
  unfold sm
  rw [← Bool.decide_and,← Bool.decide_and]
  congr 1
  apply propext
  by_cases h1 : bitLen x.natAbs < bitLen y.natAbs
  · simp only [h1,if_true]
    split <;> omega
  · simp only [h1,if_false]
    split <;> omega
end Go.Proofs.YtjbbbkfdcegfmaaGreat

/- How large loops are; rows being filled. -/
namespace Go.Proofs.YtjbbbkfdcegfmaaGreat
open Go Go.RowKit

/-- A row that is filled from the front. -/
def fillR {α : Type} (f : α → List AV) (z : List AV) (l : List α) (i : Nat) : List (List AV):=(l.take i).map f ++ List.replicate (l.length - i) z
theorem fillR_len {α : Type} (f : α → List AV) (z : List AV) (l : List α) {i : Nat} (h : i ≤ l.length) : (fillR f z l i).length = l.length:=by simp [fillR]; omega
theorem fillR_zero {α : Type} (f : α → List AV) (z : List AV) (l : List α) : List.replicate l.length z = fillR f z l 0:=by simp [fillR]
theorem fillR_all {α : Type} (f : α → List AV) (z : List AV) (l : List α) : fillR f z l l.length = l.map f:=by simp [fillR]
theorem fillR_get {α : Type} (f : α → List AV) (z : List AV) (l : List α) {i : Nat} (h : i < l.length) : (fillR f z l i)[i]? = some z:=by
  unfold fillR
  have hl : ((l.take i).map f).length = i:=by simp; omega
  rw [List.getElem?_append_right (by omega),hl,Nat.sub_self,List.getElem?_replicate,if_pos (by omega)]
theorem fillR_getE {α : Type} (f : α → List AV) (z : List AV) (l : List α) {i : Nat} (h : i < l.length) (hh : i < (fillR f z l i).length) : (fillR f z l i)[i]'hh = z:=by
  have:=fillR_get f z l h
  rw [List.getElem?_eq_getElem hh] at this
  simpa using this
theorem fillR_set {α : Type} (f : α → List AV) (z : List AV) (l : List α) {i : Nat} {x : α} (h : l[i]? = some x) : (fillR f z l i).set i (f x) = fillR f z l (i + 1):=by
  have hi : i < l.length:=(List.getElem?_eq_some_iff.1 h).1
  unfold fillR
  have hl : ((l.take i).map f).length = i:=by simp; omega
  have e : l.length - i = (l.length - (i + 1)) + 1:=by omega
  rw [e,List.replicate_succ,List.set_append_right _ _ (by omega),hl,Nat.sub_self,List.set_cons_zero,List.take_add_one,h]
  simp
theorem fz_fill {α : Type} {id n : Nat} (f : α → List AV) (l : List α) (h : n = l.length) : fz id (l.map f) (.osl id 0 n) = .isl (l.map f):=by
  subst h
  simp [fz]
  rw [← List.map_take,List.take_length]
end Go.Proofs.YtjbbbkfdcegfmaaGreat

/- Euclid's division by signs; determinants. -/
namespace Go.Proofs.YtjbbbkfdcegfmaaGreat
open Go Go.RowKit

theorem ediv_uniq {a b Q R : Int} (hb : b ≠ 0) (h : a = b * Q + R) (h0 : 0 ≤ R) (h1 : R < (b.natAbs : Int)) : Q = a / b ∧ R = a % b:=by
  rcases Int.lt_or_le 0 b with hp | hp
  · have:=div_of (N:=a) (y:=b) (Q:=Q) (R:=R) (by rw [h,Int.mul_comm]) h0 (by omega)
    exact ⟨this.1.symm,this.2.symm⟩
  · have h2:=div_of (N:=a) (y:=-b) (Q:=-Q) (R:=R) (by rw [h]; grind) h0 (by omega)
    rw [Int.ediv_neg,Int.emod_neg] at h2
    exact ⟨by omega,h2.2.symm⟩
/-- Quotient and rest by signs. -/
theorem eu_lem (a b : Int) (hb : b ≠ 0) :
    (¬ sg (decide (a < 0)) ((a.natAbs % b.natAbs : Nat) : Int) < 0 → sg (decide (a < 0) != decide (b < 0)) ((a.natAbs / b.natAbs : Nat) : Int) = a / b ∧ sg (decide (a < 0)) ((a.natAbs % b.natAbs : Nat) : Int) = a % b) ∧
    (sg (decide (a < 0)) ((a.natAbs % b.natAbs : Nat) : Int) < 0 → b < 0 → sg (decide (a < 0) != decide (b < 0)) ((a.natAbs / b.natAbs : Nat) : Int) + 1 = a / b ∧ sg (decide (a < 0)) ((a.natAbs % b.natAbs : Nat) : Int) - b = a % b) ∧
    (sg (decide (a < 0)) ((a.natAbs % b.natAbs : Nat) : Int) < 0 → ¬ b < 0 → sg (decide (a < 0) != decide (b < 0)) ((a.natAbs / b.natAbs : Nat) : Int) - 1 = a / b ∧ sg (decide (a < 0)) ((a.natAbs % b.natAbs : Nat) : Int) + b = a % b):=by
  have e:=Nat.div_add_mod a.natAbs b.natAbs
  have hlt:=Nat.mod_lt a.natAbs (show b.natAbs > 0 by omega)
  generalize a.natAbs / b.natAbs = q at *
  generalize a.natAbs % b.natAbs = r at *
  have e2 : (a.natAbs : Int) = (b.natAbs : Int) * q + r:=by
    have : ((b.natAbs * q + r : Nat) : Int) = (a.natAbs : Int):=by rw [e]
    rw [← this]; simp
  by_cases ha : a < 0 <;> by_cases hn : b < 0
  · have ea : (a.natAbs : Int) = -a:=by omega
    have eb : (b.natAbs : Int) = -b:=by omega
    rw [ea,eb] at e2
    simp only [ha,hn,decide_true,bne_self_eq_false,sg_true,sg_false]
    refine ⟨fun h=>ediv_uniq hb ?_ (by omega) (by omega),fun h _=>ediv_uniq hb ?_ (by omega) (by omega),fun h h2=>absurd trivial (fun _=>h2 trivial)⟩
    · have : (r : Int) = 0:=by omega
      grind
    · grind
  · have ea : (a.natAbs : Int) = -a:=by omega
    have eb : (b.natAbs : Int) = b:=by omega
    rw [ea,eb] at e2
    simp only [ha,hn,decide_true,decide_false,sg_true,show (true != false) = true from rfl]
    refine ⟨fun h=>ediv_uniq hb ?_ (by omega) (by omega),fun h h2=>absurd h2 (by simp),fun h _=>ediv_uniq hb ?_ (by omega) (by omega)⟩
    · have : (r : Int) = 0:=by omega
      grind
    · grind
  · have ea : (a.natAbs : Int) = a:=by omega
    have eb : (b.natAbs : Int) = -b:=by omega
    rw [ea,eb] at e2
    simp only [ha,hn,decide_true,decide_false,sg_true,sg_false,show (false != true) = true from rfl]
    refine ⟨fun h=>ediv_uniq hb ?_ (by omega) (by omega),fun h=>absurd h (by omega),fun h=>absurd h (by omega)⟩
    grind
  · have ea : (a.natAbs : Int) = a:=by omega
    have eb : (b.natAbs : Int) = b:=by omega
    rw [ea,eb] at e2
    simp only [ha,hn,decide_false,bne_self_eq_false,sg_false]
    refine ⟨fun h=>ediv_uniq hb ?_ (by omega) (by omega),fun h=>absurd h (by omega),fun h=>absurd h (by omega)⟩
    exact e2
def sg3 (z : Int) : Int:=if z < 0 then -1 else if z > 0 then 1 else 0
def det (p q r : Pt) : Int:=(q.y.v * r.w.v - r.y.v * q.w.v) * p.x.v + (q.w.v * r.x.v - r.w.v * q.x.v) * p.y.v + (q.x.v * r.y.v - r.x.v * q.y.v) * p.w.v
theorem det_spec (p q r : Pt) : p.x.v * (q.y.v * r.w.v - q.w.v * r.y.v) - p.y.v * (q.x.v * r.w.v - q.w.v * r.x.v) + p.w.v * (q.x.v * r.y.v - q.y.v * r.x.v) = det p q r:=by unfold det; grind
theorem det_rot (p q r : Pt) : det q r p = det p q r:=by unfold det; grind
theorem det_swap (p q r : Pt) : det q p r = -det p q r:=by unfold det; grind
theorem sg3_b (z : Int) : -1 ≤ sg3 z ∧ sg3 z ≤ 1:=by unfold sg3; split <;> (try split) <;> omega
end Go.Proofs.YtjbbbkfdcegfmaaGreat

/- Points made out of numbers. -/
namespace Go.Proofs.YtjbbbkfdcegfmaaGreat
open Go Go.RowKit

/-- A number in four words, noughts where it is not told. -/
def W4z (z : Int) : W4:=if fits z then ⟨modW z / 18446744073709551616 / 18446744073709551616 / 18446744073709551616,modW z / 18446744073709551616 / 18446744073709551616 % 18446744073709551616,modW z / 18446744073709551616 % 18446744073709551616,modW z % 18446744073709551616⟩ else ⟨0,0,0,0⟩
def W4.l (x : W4) : List AV:=[.int .u64 x.a,.int .u64 x.b,.int .u64 x.c,.int .u64 x.d]
theorem wdT_l (z : Int) : wdT z = .agg (W4z z).l:=by unfold wdT W4z W4.l wdZ wdI; split <;> rfl
theorem W4z_ok (z : Int) : (W4z z).ok:=by
  unfold W4z W4.ok U64
  split
  · unfold modW; simp only []; omega
  · simp
theorem uval_mod {m : Int} (h0 : 0 ≤ m) (h1 : m < 115792089237316195423570985008687907853269984665640564039457584007913129639936) : uval (m / 18446744073709551616 / 18446744073709551616 / 18446744073709551616) (m / 18446744073709551616 / 18446744073709551616 % 18446744073709551616) (m / 18446744073709551616 % 18446744073709551616) (m % 18446744073709551616) = m:=by
  unfold uval; omega
theorem W4z_v {z : Int} (h : fits z = true) : (W4z z).v = z:=by
  unfold W4z W4.v
  rw [if_pos h]
  have hf:=h
  unfold fits at hf
  simp only [decide_eq_true_eq] at hf
  unfold sval
  have hm : 0 ≤ modW z ∧ modW z < 115792089237316195423570985008687907853269984665640564039457584007913129639936:=by unfold modW; omega
  rw [uval_mod hm.1 hm.2]
  simp only []
  unfold modW at *
  split <;> omega
theorem sm_fits {z : Int} (h : bitLen z.natAbs ≤ 80) : fits z = true:=by
  have:=bitLen_le.1 h
  have e : (2 : Nat) ^ 80 = 1208925819614629174706176:=by decide
  rw [e] at this
  unfold fits; simp; omega
def pt0 : Pt:=⟨⟨0,0,0,0⟩,⟨0,0,0,0⟩,⟨0,0,0,0⟩⟩
theorem pt0_ok : pt0.ok:=by unfold Pt.ok W4.ok U64 pt0; simp
/-- A point out of numbers, where they are small. -/
def pt3 (x y w : Int) : Pt:=if sm x y w = true then ⟨W4z x,W4z y,W4z w⟩ else pt0
theorem pt3_ok (x y w : Int) : (pt3 x y w).ok:=by
  unfold pt3; split
  · exact ⟨W4z_ok _,W4z_ok _,W4z_ok _⟩
  · exact pt0_ok
def gcd3 (x y w : Int) : Int:=((Nat.gcd (Int.gcd x y) w.natAbs : Nat) : Int)
theorem gcd3_pos {x y w : Int} (h : w ≠ 0) : 0 < gcd3 x y w:=by
  unfold gcd3
  have:=Nat.gcd_pos_of_pos_right (Int.gcd x y) (show 0 < w.natAbs by omega)
  omega
theorem gcd3_neg (x y w : Int) : gcd3 (-x) (-y) (-w) = gcd3 x y w:=by
  unfold gcd3; rw [Int.gcd_neg,Int.neg_gcd,Int.natAbs_neg]
def nrm (w x : Int) : Int:=if w < 0 then -x else x
theorem gcd3_nrm (x y w : Int) : gcd3 (nrm w x) (nrm w y) (nrm w w) = gcd3 x y w:=by
  unfold nrm; split
  · exact gcd3_neg _ _ _
  · rfl
theorem Bg.nrm {j : Nat} {w x : Int} (h : Bg j x) : Bg j (nrm w x):=by
  unfold Go.Proofs.YtjbbbkfdcegfmaaGreat.nrm; split
  · exact h.neg
  · exact h
theorem Bg.div {j : Nat} {x g : Int} (h : Bg j x) (hg : 0 < g) : Bg j (x / g):=by
  unfold Bg at *
  have e:=Int.mul_ediv_add_emod x g
  have h1:=Int.emod_nonneg x (show g ≠ 0 by omega)
  have h2:=Int.emod_lt_of_pos x hg
  rcases Int.lt_or_le x 0 with hx | hx
  · have hq : x / g < 0:=Int.ediv_neg_of_neg_of_pos hx hg
    have : x ≤ x / g:=by
      have h3:=Int.mul_le_mul_of_nonneg_left (show x / g + 1 ≤ 0 by omega) (show 0 ≤ g - 1 by omega)
      rw [Int.mul_zero] at h3
      have e3 : (g - 1) * (x / g + 1) = g * (x / g) + g - x / g - 1:=by grind
      omega
    omega
  · have hq : 0 ≤ x / g:=Int.ediv_nonneg hx (by omega)
    have : x / g ≤ x:=Int.ediv_le_self _ hx
    omega
end Go.Proofs.YtjbbbkfdcegfmaaGreat

/- Points made and halved, as the reference does it. -/
namespace Go.Proofs.YtjbbbkfdcegfmaaGreat
open Go Go.RowKit

def mkP (x y w : Int) : Pt:=if w = 0 then pt0 else pt3 (nrm w x / gcd3 x y w) (nrm w y / gcd3 x y w) (nrm w w / gcd3 x y w)
def mkB (x y w : Int) : Bool:=if w = 0 then false else sm (nrm w x / gcd3 x y w) (nrm w y / gcd3 x y w) (nrm w w / gcd3 x y w)
theorem mkP_ok (x y w : Int) : (mkP x y w).ok:=by
  unfold mkP; split
  · exact pt0_ok
  · exact pt3_ok _ _ _
theorem good_pos {p : Pt} (h : p.good = true) : 0 < p.w.v:=by
  unfold Pt.good at h
  simp only [Bool.and_eq_true,decide_eq_true_eq] at h
  exact h.1.1
end Go.Proofs.YtjbbbkfdcegfmaaGreat

/- Points in order; between; crossings. -/
namespace Go.Proofs.YtjbbbkfdcegfmaaGreat
open Go Go.RowKit

def cm (a b : Int) : Int:=if a < b then -1 else if a > b then 1 else 0
theorem cm_lt {a b : Int} : cm a b < 0 ↔ a < b:=by unfold cm; split <;> (try split) <;> omega
theorem cm_gt {a b : Int} : 0 < cm a b ↔ b < a:=by unfold cm; split <;> (try split) <;> omega
theorem cm_eq {a b : Int} : cm a b = 0 ↔ a = b:=by unfold cm; split <;> (try split) <;> omega
theorem cm_b (a b : Int) : -1 ≤ cm a b ∧ cm a b ≤ 1:=by unfold cm; split <;> (try split) <;> omega
def cmX (p q : Pt) : Int:=cm (p.x.v * q.w.v) (q.x.v * p.w.v)
def cmY (p q : Pt) : Int:=cm (p.y.v * q.w.v) (q.y.v * p.w.v)
def cmV (p q : Pt) : Int:=if cmX p q ≠ 0 then cmX p q else cmY p q
theorem cmX_anti (p q : Pt) : cmX q p = -cmX p q:=by unfold cmX cm; split <;> split <;> (try split) <;> (try split) <;> omega
theorem cmY_anti (p q : Pt) : cmY q p = -cmY p q:=by unfold cmY cm; split <;> split <;> (try split) <;> (try split) <;> omega
theorem cmV_anti (p q : Pt) : cmV q p = -cmV p q:=by
  unfold cmV; rw [cmX_anti,cmY_anti]; split <;> split <;> omega
/-- One part: from the lesser to the greater. -/
theorem part_tr {a b c u v w : Int} (hu : 0 < u) (hv : 0 < v) (hw : 0 < w) (h1 : a * v ≤ b * u) (h2 : b * w ≤ c * v) : a * w ≤ c * u ∧ (a * w = c * u → a * v = b * u ∧ b * w = c * v):=by
  have e1:=Int.mul_le_mul_of_nonneg_right h1 (Int.le_of_lt hw)
  have e2:=Int.mul_le_mul_of_nonneg_right h2 (Int.le_of_lt hu)
  have f1 : a * v * w = a * w * v:=by grind
  have f2 : b * u * w = b * w * u:=by grind
  have f3 : c * v * u = c * u * v:=by grind
  have e3 : a * w * v ≤ c * u * v:=by omega
  refine ⟨Int.le_of_mul_le_mul_right e3 hv,fun he=>?_⟩
  rw [he] at f1
  refine ⟨?_,?_⟩
  · have : a * v * w = b * u * w:=by omega
    exact Int.eq_of_mul_eq_mul_right (by omega) this
  · have : b * w * u = c * v * u:=by omega
    exact Int.eq_of_mul_eq_mul_right (by omega) this
theorem cmV_tr {p q r : Pt} (hp : 0 < p.w.v) (hq : 0 < q.w.v) (hr : 0 < r.w.v) (h1 : cmV p r ≤ 0) (h2 : cmV r q ≤ 0) : cmV p q ≤ 0:=by
  have x1 : p.x.v * r.w.v ≤ r.x.v * p.w.v:=by
    unfold cmV at h1
    split at h1
    · rcases Int.lt_or_le (cmX p r) 0 with h | h
      · have:=cm_lt.1 h; omega
      · omega
    · rename_i h; simp only [ne_eq,Decidable.not_not] at h; have:=cm_eq.1 h; omega
  have x2 : r.x.v * q.w.v ≤ q.x.v * r.w.v:=by
    unfold cmV at h2
    split at h2
    · rcases Int.lt_or_le (cmX r q) 0 with h | h
      · have:=cm_lt.1 h; omega
      · omega
    · rename_i h; simp only [ne_eq,Decidable.not_not] at h; have:=cm_eq.1 h; omega
  obtain ⟨t1,t2⟩:=part_tr hp hr hq x1 x2
  unfold cmV
  split
  · rename_i h
    rcases Int.lt_or_le 0 (cmX p q) with h' | h'
    · have:=cm_gt.1 h'; omega
    · exact h'
  · rename_i h
    simp only [ne_eq,Decidable.not_not] at h
    obtain ⟨e1,e2⟩:=t2 (cm_eq.1 h)
    have z1 : cmX p r = 0:=cm_eq.2 e1
    have z2 : cmX r q = 0:=cm_eq.2 e2
    unfold cmV at h1 h2
    rw [if_neg (by simp [z1])] at h1
    rw [if_neg (by simp [z2])] at h2
    have y1 : p.y.v * r.w.v ≤ r.y.v * p.w.v:=by
      rcases Int.lt_or_le (r.y.v * p.w.v) (p.y.v * r.w.v) with h' | h'
      · have : 0 < cmY p r:=cm_gt.2 h'
        omega
      · exact h'
    have y2 : r.y.v * q.w.v ≤ q.y.v * r.w.v:=by
      rcases Int.lt_or_le (q.y.v * r.w.v) (r.y.v * q.w.v) with h' | h'
      · have : 0 < cmY r q:=cm_gt.2 h'
        omega
      · exact h'
    obtain ⟨t3,_⟩:=part_tr hp hr hq y1 y2
    rcases Int.lt_or_le 0 (cmY p q) with h' | h'
    · have:=cm_gt.1 h'; omega
    · exact h'
theorem sval_inj {a b c d a' b' c' d' : Int} (ha : U64 a) (hb : U64 b) (hc : U64 c) (hd : U64 d) (ha' : U64 a') (hb' : U64 b') (hc' : U64 c') (hd' : U64 d') (h : sval a b c d = sval a' b' c' d') : a = a' ∧ b = b' ∧ c = c' ∧ d = d':=by
  unfold U64 at *
  unfold sval uval at h
  split at h <;> split at h <;> omega
theorem W4.inj {x y : W4} (hx : x.ok) (hy : y.ok) (h : x.v = y.v) : x = y:=by
  have:=sval_inj hx.1 hx.2.1 hx.2.2.1 hx.2.2.2 hy.1 hy.2.1 hy.2.2.1 hy.2.2.2 h
  cases x; cases y; simp_all
theorem good_gcd {p : Pt} (h : p.good = true) : Nat.gcd (Nat.gcd p.x.v.natAbs p.y.v.natAbs) p.w.v.natAbs = 1:=by
  unfold Pt.good at h
  simp only [Bool.and_eq_true,decide_eq_true_eq] at h
  exact h.2
/-- Points of one place are one. -/
theorem cmV_zero {p q : Pt} (hpo : p.ok) (hqo : q.ok) (hp : p.good = true) (hq : q.good = true) (h : cmV p q = 0) : p = q:=by
  have wp:=good_pos hp
  have wq:=good_pos hq
  have hx : p.x.v * q.w.v = q.x.v * p.w.v:=by
    unfold cmV at h
    split at h
    · rename_i h'; exact absurd h h'
    · rename_i h'; simp only [ne_eq,Decidable.not_not] at h'; exact cm_eq.1 h'
  have hy : p.y.v * q.w.v = q.y.v * p.w.v:=by
    unfold cmV at h
    split at h
    · rename_i h'; exact absurd h h'
    · exact cm_eq.1 h
  have g1:=good_gcd hp
  have g2:=good_gcd hq
  have nx : p.x.v.natAbs * q.w.v.natAbs = q.x.v.natAbs * p.w.v.natAbs:=by rw [← Int.natAbs_mul,← Int.natAbs_mul,hx]
  have ny : p.y.v.natAbs * q.w.v.natAbs = q.y.v.natAbs * p.w.v.natAbs:=by rw [← Int.natAbs_mul,← Int.natAbs_mul,hy]
  have e1 : Nat.gcd (Nat.gcd (p.x.v.natAbs * q.w.v.natAbs) (p.y.v.natAbs * q.w.v.natAbs)) (p.w.v.natAbs * q.w.v.natAbs) = q.w.v.natAbs:=by
    rw [Nat.gcd_mul_right,Nat.gcd_mul_right,g1,Nat.one_mul]
  have e2 : Nat.gcd (Nat.gcd (q.x.v.natAbs * p.w.v.natAbs) (q.y.v.natAbs * p.w.v.natAbs)) (q.w.v.natAbs * p.w.v.natAbs) = p.w.v.natAbs:=by
    rw [Nat.gcd_mul_right,Nat.gcd_mul_right,g2,Nat.one_mul]
  rw [nx,ny,Nat.mul_comm p.w.v.natAbs,e2] at e1
  have ew : p.w.v = q.w.v:=by omega
  rw [ew] at hx hy
  have ex:=Int.eq_of_mul_eq_mul_right (by omega) hx
  have ey:=Int.eq_of_mul_eq_mul_right (by omega) hy
  have a1:=W4.inj hpo.1 hqo.1 ex
  have a2:=W4.inj hpo.2.1 hqo.2.1 ey
  have a3:=W4.inj hpo.2.2 hqo.2.2 ew
  cases p; cases q; simp_all
/-- Between, as the reference asks it. -/
def btS (p q r : Pt) : Bool:=if cmV p q > 0 then (decide (cmV q r ≤ 0) && (decide (cmV r p ≤ 0) && decide (sg3 (det q p r) = 0))) else (decide (cmV p r ≤ 0) && (decide (cmV r q ≤ 0) && decide (sg3 (det p q r) = 0)))
theorem sg3_zero {z : Int} : sg3 z = 0 ↔ z = 0:=by unfold sg3; split <;> (try split) <;> omega
instance : DecidableEq W4:=fun p q=>decidable_of_iff (p.a = q.a ∧ p.b = q.b ∧ p.c = q.c ∧ p.d = q.d) (by cases p; cases q; simp)
instance : DecidableEq Pt:=fun p q=>decidable_of_iff (p.x = q.x ∧ p.y = q.y ∧ p.w = q.w) (by cases p; cases q; simp)
end Go.Proofs.YtjbbbkfdcegfmaaGreat

/- Fractions. -/
namespace Go.Proofs.YtjbbbkfdcegfmaaGreat
open Go Go.RowKit

structure Rt where
  up : W4
  down : W4
def Rt.ok (r : Rt) : Prop:=r.up.ok ∧ r.down.ok
def Rt.cells (r : Rt) : List AV:=[.int .u64 r.up.a,.int .u64 r.up.b,.int .u64 r.up.c,.int .u64 r.up.d,.int .u64 r.down.a,.int .u64 r.down.b,.int .u64 r.down.c,.int .u64 r.down.d]
def Rt.av (r : Rt) : AV:=.agg r.cells
def Rt.good (r : Rt) : Bool:=decide (0 < r.down.v) && decide (Int.gcd r.up.v r.down.v = 1)
instance : DecidableEq Rt:=fun p q=>decidable_of_iff (p.up = q.up ∧ p.down = q.down) (by cases p; cases q; simp)
def W40 : W4:=⟨0,0,0,0⟩
def Rt0 : Rt:=⟨W40,W40⟩
def gg (u d : Int) : Int:=((Int.gcd u d : Nat) : Int)
def lowU (u d : Int) : Int:=nrm d u / gg u d
def lowD (u d : Int) : Int:=nrm d d / gg u d
def told (u d : Int) : Rt × Bool:=if d = 0 then (Rt0,false) else if fits (lowU u d) && fits (lowD u d) then (⟨W4z (lowU u d),W4z (lowD u d)⟩,true) else (Rt0,false)
theorem gg_pos {u d : Int} (h : d ≠ 0) : 0 < gg u d:=by
  unfold gg; have:=Int.gcd_pos_of_ne_zero_right u h; omega
theorem gg_nrm (u d : Int) : gg (nrm d u) (nrm d d) = gg u d:=by
  unfold nrm gg; split
  · simp
  · rfl
theorem gg_l (u d : Int) : gg u d ∣ u:=Int.gcd_dvd_left ..
theorem gg_r (u d : Int) : gg u d ∣ d:=Int.gcd_dvd_right ..
theorem lowU_mul {u d : Int} : lowU u d * gg u d = nrm d u:=by
  unfold lowU; rw [← gg_nrm]; exact Int.ediv_mul_cancel (gg_l _ _)
theorem lowD_mul {u d : Int} : lowD u d * gg u d = nrm d d:=by
  unfold lowD; rw [← gg_nrm]; exact Int.ediv_mul_cancel (gg_r _ _)
theorem nrm_pos {d : Int} (h : d ≠ 0) : 0 < nrm d d:=by unfold nrm; split <;> omega
theorem lowD_pos {u d : Int} (h : d ≠ 0) : 0 < lowD u d:=by
  have e:=@lowD_mul u d
  have p:=nrm_pos h
  have g:=@gg_pos u d h
  rcases Int.lt_or_le 0 (lowD u d) with h' | h'
  · exact h'
  · have:=Int.mul_nonpos_of_nonpos_of_nonneg h' (Int.le_of_lt g); omega
theorem nrm_cross (u d : Int) : nrm d u * d = u * nrm d d:=by unfold nrm; split <;> grind
theorem low_cross {u d : Int} (h : d ≠ 0) : lowU u d * d = u * lowD u d:=by
  have e1:=@lowU_mul u d
  have e2:=@lowD_mul u d
  have e3:=nrm_cross u d
  rw [← e1,← e2] at e3
  have : lowU u d * d * gg u d = u * lowD u d * gg u d:=by grind
  exact Int.eq_of_mul_eq_mul_right (by have:=@gg_pos u d h; omega) this
theorem low_red {u d : Int} (h : d ≠ 0) : Int.gcd (lowU u d) (lowD u d) = 1:=by
  unfold lowU lowD
  rw [← gg_nrm]
  have:=gg_pos (u:=nrm d u) (d:=nrm d d) (by have:=nrm_pos h; omega)
  exact Int.gcd_ediv_gcd_ediv_gcd (by unfold gg at this; omega)
theorem red_uniq {U D U' D' : Int} (hD : 0 < D) (hD' : 0 < D') (r : Int.gcd U D = 1) (r' : Int.gcd U' D' = 1) (e : U * D' = U' * D) : U = U' ∧ D = D':=by
  have n : U.natAbs * D'.natAbs = U'.natAbs * D.natAbs:=by rw [← Int.natAbs_mul,← Int.natAbs_mul,e]
  have c : Nat.Coprime U.natAbs D.natAbs:=r
  have c' : Nat.Coprime U'.natAbs D'.natAbs:=r'
  have d1 : D.natAbs ∣ D'.natAbs:=c.symm.dvd_of_dvd_mul_left ⟨U'.natAbs,by rw [n,Nat.mul_comm]⟩
  have d2 : D'.natAbs ∣ D.natAbs:=c'.symm.dvd_of_dvd_mul_left ⟨U.natAbs,by rw [← n,Nat.mul_comm]⟩
  have ed : D = D':=by have:=Nat.dvd_antisymm d1 d2; omega
  subst ed
  exact ⟨Int.eq_of_mul_eq_mul_right (by omega) e,rfl⟩
theorem low_uniq {u d U D : Int} (h : d ≠ 0) (hD : 0 < D) (r : Int.gcd U D = 1) (e : U * d = u * D) : lowU u d = U ∧ lowD u d = D:=by
  refine red_uniq (lowD_pos h) hD (low_red h) r ?_
  have c:=@low_cross u d h
  have : lowU u d * D * d = U * lowD u d * d:=by grind
  exact Int.eq_of_mul_eq_mul_right h this
theorem told_fit {u d : Int} (h : d ≠ 0) : told u d = if fits (lowU u d) && fits (lowD u d) then (⟨W4z (lowU u d),W4z (lowD u d)⟩,true) else (Rt0,false):=by unfold told; rw [if_neg h]
end Go.Proofs.YtjbbbkfdcegfmaaGreat

/- Spots and segments; where two segments meet. -/
namespace Go.Proofs.YtjbbbkfdcegfmaaGreat
open Go Go.RowKit

structure Sp where
  x : Int
  y : Int
instance : DecidableEq Sp:=fun p q=>decidable_of_iff (p.x = q.x ∧ p.y = q.y) (by cases p; cases q; simp)
structure Sg where
  a : Sp
  b : Sp
def I64 (x : Int) : Prop:=-9223372036854775808 ≤ x ∧ x ≤ 9223372036854775807
def Sp.ok (p : Sp) : Prop:=I64 p.x ∧ I64 p.y
def Sg.ok (s : Sg) : Prop:=s.a.ok ∧ s.b.ok
def Sp.cells (p : Sp) : List AV:=[.int .i64 p.x,.int .i64 p.y]
def Sp.av (p : Sp) : AV:=.agg p.cells
def Sg.cells (s : Sg) : List AV:=[.int .i64 s.a.x,.int .i64 s.a.y,.int .i64 s.b.x,.int .i64 s.b.y]
def Sg.av (s : Sg) : AV:=.agg s.cells
def inM (x : Int) : Bool:=decide (-1000000 ≤ x) && decide (x ≤ 1000000)
def Sp.good (p : Sp) : Bool:=inM p.x && inM p.y
def lsS (p q : Sp) : Bool:=decide (p.x < q.x) || (decide (p.x = q.x) && decide (p.y < q.y))
def Sg.good (s : Sg) : Bool:=s.a.good && (s.b.good && lsS s.a s.b)
def cmS (p q : Sp) : Int:=if p = q then 0 else if lsS p q = true then -1 else 1
def crs (a b c : Sp) : Int:=(b.x - a.x) * (c.y - a.y) - (b.y - a.y) * (c.x - a.x)
theorem inM_b {x : Int} (h : inM x = true) : -1000000 ≤ x ∧ x ≤ 1000000:=by simp [inM] at h; exact h
theorem Sp.b {p : Sp} (h : p.good = true) : -1000000 ≤ p.x ∧ p.x ≤ 1000000 ∧ -1000000 ≤ p.y ∧ p.y ≤ 1000000:=by
  simp only [Sp.good,Bool.and_eq_true] at h
  exact ⟨(inM_b h.1).1,(inM_b h.1).2,(inM_b h.2).1,(inM_b h.2).2⟩
theorem mul_b {u v m n : Int} (hm : 0 ≤ m) (h1 : -m ≤ u) (h2 : u ≤ m) (h3 : -n ≤ v) (h4 : v ≤ n) : -(m * n) ≤ u * v ∧ u * v ≤ m * n:=by
  have hn : 0 ≤ n:=by omega
  have a : (u * v).natAbs ≤ (m * n).natAbs:=by
    rw [Int.natAbs_mul,Int.natAbs_mul]; exact Nat.mul_le_mul (by omega) (by omega)
  have:=Int.mul_nonneg hm hn
  omega
theorem crs_b {a b c : Sp} (ha : a.good = true) (hb : b.good = true) (hc : c.good = true) : -8000000000000 ≤ crs a b c ∧ crs a b c ≤ 8000000000000:=by
  have:=Sp.b ha; have:=Sp.b hb; have:=Sp.b hc
  have m1:=mul_b (u:=b.x - a.x) (v:=c.y - a.y) (m:=2000000) (n:=2000000) (by omega) (by omega) (by omega) (by omega) (by omega)
  have m2:=mul_b (u:=b.y - a.y) (v:=c.x - a.x) (m:=2000000) (n:=2000000) (by omega) (by omega) (by omega) (by omega) (by omega)
  unfold crs; omega
theorem lsS_iff {p q : Sp} : lsS p q = true ↔ p.x < q.x ∨ (p.x = q.x ∧ p.y < q.y):=by simp [lsS]
theorem lsS_not {p q : Sp} : lsS p q = false ↔ q.x < p.x ∨ (p.x = q.x ∧ q.y ≤ p.y):=by
  rw [← Bool.not_eq_true,lsS_iff]; omega
theorem cmS_neg {p q : Sp} : cmS p q < 0 ↔ lsS p q = true:=by
  unfold cmS; split
  · rename_i h; subst h; simp [lsS]
  · split <;> simp_all
theorem cmS_pos {p q : Sp} : 0 < cmS p q ↔ lsS q p = true:=by
  unfold cmS; split
  · rename_i h; subst h; simp [lsS]
  · rename_i h
    have : ¬ (p.x = q.x ∧ p.y = q.y):=fun e=>h (by cases p; cases q; simp_all)
    split
    · rename_i h2; rw [lsS_iff] at *; constructor
      · intro; omega
      · intro h3; omega
    · rename_i h2; rw [lsS_iff] at *; constructor
      · intro; omega
      · intro; omega
theorem cmS_zero {p q : Sp} : cmS p q = 0 ↔ p = q:=by
  unfold cmS; split
  · simp_all
  · split <;> simp_all
def lowS (s t : Sg) : Sp:=if lsS s.a t.a = true then t.a else s.a
def highS (s t : Sg) : Sp:=if lsS t.b s.b = true then t.b else s.b
def mn (a b : Int) : Int:=if b < a then b else a
def mx (a b : Int) : Int:=if a < b then b else a
/-- Apart: the boxes have nothing in common. -/
def apart (s t : Sg) : Bool:=decide (mn s.b.x t.b.x < mx s.a.x t.a.x) || decide (mn (mx s.a.y s.b.y) (mx t.a.y t.b.y) < mx (mn s.a.y s.b.y) (mn t.a.y t.b.y))
def ptS (p : Sp) : Pt:=pt3 p.x p.y 1
def linP (s t : Sg) : Int × Pt × Pt:=if lsS (highS s t) (lowS s t) = true then (0,pt0,pt0) else if lowS s t = highS s t then (1,ptS (lowS s t),pt0) else (2,ptS (lowS s t),ptS (highS s t))
def wayW (s t : Sg) : Int:=crs s.a s.b t.a - crs s.a s.b t.b
def wayX (s t : Sg) : Int:=t.a.x * wayW s t + crs s.a s.b t.a * (t.b.x - t.a.x)
def wayY (s t : Sg) : Int:=t.a.y * wayW s t + crs s.a s.b t.a * (t.b.y - t.a.y)
def denS (s t : Sg) : Int:=(s.b.x - s.a.x) * (t.b.y - t.a.y) - (s.b.y - s.a.y) * (t.b.x - t.a.x)
def numT (s t : Sg) : Int:=(t.a.x - s.a.x) * (t.b.y - t.a.y) - (t.a.y - s.a.y) * (t.b.x - t.a.x)
def wayX2 (s t : Sg) : Int:=s.a.x * denS s t + (s.b.x - s.a.x) * numT s t
def wayY2 (s t : Sg) : Int:=s.a.y * denS s t + (s.b.y - s.a.y) * numT s t
def noWay (s t : Sg) : Bool:=decide (0 < sg3 (crs s.a s.b t.a) * sg3 (crs s.a s.b t.b)) || decide (0 < sg3 (crs t.a t.b s.a) * sg3 (crs t.a t.b s.b))
def meetI (s t : Sg) : Int × Pt × Pt:=if apart s t then (0,pt0,pt0) else if crs s.a s.b t.a = 0 ∧ crs s.a s.b t.b = 0 then linP s t else if noWay s t then (0,pt0,pt0) else (1,mkP (wayX s t) (wayY s t) (wayW s t),pt0)
def meetS (s t : Sg) : Int × Pt × Pt:=if crs s.a s.b t.a = 0 ∧ crs s.a s.b t.b = 0 then linP s t else if noWay s t then (0,pt0,pt0) else (1,mkP (wayX2 s t) (wayY2 s t) (denS s t),pt0)
theorem den_w (s t : Sg) : denS s t = -wayW s t:=by unfold denS wayW crs; grind
theorem x_x (s t : Sg) : wayX2 s t = -wayX s t:=by unfold wayX2 wayX denS numT wayW crs; grind
theorem y_y (s t : Sg) : wayY2 s t = -wayY s t:=by unfold wayY2 wayY denS numT wayW crs; grind
theorem mkP_neg {x y w : Int} (h : w ≠ 0) : mkP (-x) (-y) (-w) = mkP x y w:=by
  unfold mkP
  rw [if_neg (by omega),if_neg h,gcd3_neg]
  have e : ∀ z,nrm (-w) (-z) = nrm w z:=fun z=>by
    unfold nrm
    by_cases hw : w < 0
    · rw [if_neg (by omega),if_pos hw]
    · rw [if_pos (by omega),if_neg hw]; omega
  rw [e,e,e]
theorem sg_mul_neg {a b : Int} (h : ¬ 0 < sg3 a * sg3 b) : (a ≤ 0 ∧ 0 ≤ b) ∨ (0 ≤ a ∧ b ≤ 0):=by
  unfold sg3 at h
  rcases Int.lt_trichotomy a 0 with ha | ha | ha <;> rcases Int.lt_trichotomy b 0 with hb | hb | hb <;> simp [ha,hb,Int.lt_asymm,show ¬ (0 < a) ∨ 0 ≤ a by omega] at h ⊢ <;> omega
/-- Between, times a weight. -/
theorem btw {a b c w p : Int} (hw : 0 < w) (h0 : 0 ≤ c) (h1 : c ≤ w) (e : p = a * w + c * (b - a)) : mn a b * w ≤ p ∧ p ≤ mx a b * w:=by
  have e1 : p = a * (w - c) + b * c:=by rw [e]; grind
  unfold mn mx
  have q : (w - c) + c = w:=by omega
  constructor
  · have : ∀ m,m ≤ a → m ≤ b → m * w ≤ p:=fun m h2 h3=>by
      have g1:=Int.mul_le_mul_of_nonneg_right h2 (show 0 ≤ w - c by omega)
      have g2:=Int.mul_le_mul_of_nonneg_right h3 h0
      have g3 : m * w = m * (w - c) + m * c:=by rw [← Int.mul_add,q]
      omega
    split
    · exact this b (by omega) (by omega)
    · exact this a (by omega) (by omega)
  · have : ∀ m,a ≤ m → b ≤ m → p ≤ m * w:=fun m h2 h3=>by
      have g1:=Int.mul_le_mul_of_nonneg_right h2 (show 0 ≤ w - c by omega)
      have g2:=Int.mul_le_mul_of_nonneg_right h3 h0
      have g3 : m * w = m * (w - c) + m * c:=by rw [← Int.mul_add,q]
      omega
    split
    · exact this b (by omega) (by omega)
    · exact this a (by omega) (by omega)
theorem ovl {l1 h1 l2 h2 w p : Int} (hw : 0 < w) (a1 : l1 * w ≤ p) (a2 : p ≤ h1 * w) (b1 : l2 * w ≤ p) (b2 : p ≤ h2 * w) : ¬ mn h1 h2 < mx l1 l2:=by
  have c : ∀ u v : Int,u * w ≤ v * w → u ≤ v:=fun u v h=>Int.le_of_mul_le_mul_right h hw
  have c1:=c l1 h1 (by omega)
  have c2:=c l1 h2 (by omega)
  have c3:=c l2 h1 (by omega)
  have c4:=c l2 h2 (by omega)
  unfold mn mx; split <;> split <;> omega
theorem way_apart {s t : Sg} (hs : lsS s.a s.b = true) (ht : lsS t.a t.b = true) (h0 : ¬ (crs s.a s.b t.a = 0 ∧ crs s.a s.b t.b = 0)) (h : noWay s t = false) : wayW s t ≠ 0 ∧ apart s t = false:=by
  simp only [noWay,Bool.or_eq_false_iff,decide_eq_false_iff_not] at h
  have n1:=sg_mul_neg h.1
  have n2:=sg_mul_neg h.2
  have hw : crs t.a t.b s.a - crs t.a t.b s.b = -wayW s t:=by unfold wayW crs; grind
  have eX : wayX s t = s.a.x * wayW s t - crs t.a t.b s.a * (s.b.x - s.a.x):=by unfold wayX wayW crs; grind
  have eY : wayY s t = s.a.y * wayW s t - crs t.a t.b s.a * (s.b.y - s.a.y):=by unfold wayY wayW crs; grind
  have dX : wayX s t = t.a.x * wayW s t + crs s.a s.b t.a * (t.b.x - t.a.x):=rfl
  have dY : wayY s t = t.a.y * wayW s t + crs s.a s.b t.a * (t.b.y - t.a.y):=rfl
  have dW : wayW s t = crs s.a s.b t.a - crs s.a s.b t.b:=rfl
  have xs : mn s.a.x s.b.x = s.a.x ∧ mx s.a.x s.b.x = s.b.x:=by
    rw [lsS_iff] at hs; unfold mn mx; split <;> split <;> omega
  have xt : mn t.a.x t.b.x = t.a.x ∧ mx t.a.x t.b.x = t.b.x:=by
    rw [lsS_iff] at ht; unfold mn mx; split <;> split <;> omega
  generalize crs s.a s.b t.a = a at *
  generalize crs s.a s.b t.b = b at *
  generalize crs t.a t.b s.a = c at *
  generalize crs t.a t.b s.b = d at *
  generalize wayW s t = w at *
  generalize wayX s t = px at *
  generalize wayY s t = py at *
  have hwn : w ≠ 0:=by omega
  refine ⟨hwn,?_⟩
  unfold apart
  rw [Bool.or_eq_false_iff,decide_eq_false_iff_not,decide_eq_false_iff_not]
  rcases Int.lt_or_lt_of_ne hwn with hn | hp
  · -- w < 0
    have q1:=btw (a:=s.a.x) (b:=s.b.x) (c:=c) (w:=-w) (p:=-px) (by omega) (by omega) (by omega) (by rw [eX]; grind)
    have q2:=btw (a:=t.a.x) (b:=t.b.x) (c:=-a) (w:=-w) (p:=-px) (by omega) (by omega) (by omega) (by rw [dX]; grind)
    have q3:=btw (a:=s.a.y) (b:=s.b.y) (c:=c) (w:=-w) (p:=-py) (by omega) (by omega) (by omega) (by rw [eY]; grind)
    have q4:=btw (a:=t.a.y) (b:=t.b.y) (c:=-a) (w:=-w) (p:=-py) (by omega) (by omega) (by omega) (by rw [dY]; grind)
    rw [xs.1,xs.2] at q1
    rw [xt.1,xt.2] at q2
    exact ⟨ovl (by omega) q1.1 q1.2 q2.1 q2.2,ovl (by omega) q3.1 q3.2 q4.1 q4.2⟩
  · have q1:=btw (a:=s.a.x) (b:=s.b.x) (c:=-c) (w:=w) (p:=px) hp (by omega) (by omega) (by rw [eX]; grind)
    have q2:=btw (a:=t.a.x) (b:=t.b.x) (c:=a) (w:=w) (p:=px) hp (by omega) (by omega) dX
    have q3:=btw (a:=s.a.y) (b:=s.b.y) (c:=-c) (w:=w) (p:=py) hp (by omega) (by omega) (by rw [eY]; grind)
    have q4:=btw (a:=t.a.y) (b:=t.b.y) (c:=a) (w:=w) (p:=py) hp (by omega) (by omega) dY
    rw [xs.1,xs.2] at q1
    rw [xt.1,xt.2] at q2
    exact ⟨ovl hp q1.1 q1.2 q2.1 q2.2,ovl hp q3.1 q3.2 q4.1 q4.2⟩
theorem lin_y {A B P : Sp} (h : crs A B P = 0) (hAB : lsS A B = true) (h1 : lsS P A = false) (h2 : lsS B P = false) : mn A.y B.y ≤ P.y ∧ P.y ≤ mx A.y B.y:=by
  rw [lsS_iff] at hAB
  rw [lsS_not] at h1 h2
  have e : (B.x - A.x) * (P.y - A.y) = (B.y - A.y) * (P.x - A.x):=by unfold crs at h; omega
  clear h
  by_cases hx : B.x = A.x
  · unfold mn mx; split <;> split <;> omega
  · have hd : 0 < B.x - A.x:=by omega
    have hp0 : 0 ≤ P.x - A.x:=by omega
    have hp1 : P.x - A.x ≤ B.x - A.x:=by omega
    have c : ∀ u v : Int,(B.x - A.x) * u ≤ (B.x - A.x) * v → u ≤ v:=fun u v h=>Int.le_of_mul_le_mul_left h hd
    rcases Int.le_total 0 (B.y - A.y) with hy | hy
    · have g1:=Int.mul_nonneg hy hp0
      have g2:=Int.mul_le_mul_of_nonneg_left hp1 hy
      have k1:=c 0 (P.y - A.y) (by rw [e]; omega)
      have k2:=c (P.y - A.y) (B.y - A.y) (by rw [e,Int.mul_comm (B.x - A.x)]; exact g2)
      unfold mn mx; split <;> split <;> omega
    · have g1:=Int.mul_nonpos_of_nonpos_of_nonneg hy hp0
      have g2:=Int.mul_le_mul_of_nonpos_left hy hp1
      have k1:=c (P.y - A.y) 0 (by rw [e]; omega)
      have k2:=c (B.y - A.y) (P.y - A.y) (by rw [e,Int.mul_comm (B.x - A.x)]; exact g2)
      unfold mn mx; split <;> split <;> omega
theorem lin_c {A B C D : Sp} (hAB : lsS A B = true) (h1 : crs A B C = 0) (h2 : crs A B D = 0) : crs C D A = 0:=by
  rw [lsS_iff] at hAB
  have e1 : (B.x - A.x) * crs C D A = (C.x - A.x) * crs A B D - (D.x - A.x) * crs A B C:=by unfold crs; grind
  have e2 : (B.y - A.y) * crs C D A = (C.y - A.y) * crs A B D - (D.y - A.y) * crs A B C:=by unfold crs; grind
  rw [h1,h2] at e1 e2
  simp only [Int.mul_zero,Int.sub_zero] at e1 e2
  rcases Int.mul_eq_zero.1 e1 with h | h
  · rcases Int.mul_eq_zero.1 e2 with h' | h'
    · omega
    · exact h'
  · exact h
theorem nls_tr {p q r : Sp} (h1 : lsS q p = false) (h2 : lsS r q = false) : lsS r p = false:=by
  rw [lsS_not] at *; omega
theorem lin_apart {s t : Sg} (hs : lsS s.a s.b = true) (ht : lsS t.a t.b = true) (h : crs s.a s.b t.a = 0 ∧ crs s.a s.b t.b = 0) (ha : apart s t = true) : linP s t = (0,pt0,pt0):=by
  unfold linP
  cases hl : lsS (highS s t) (lowS s t)
  · exfalso
    have hc:=lin_c hs h.1 h.2
    have hh1 : lsS s.b (highS s t) = false ∧ lsS t.b (highS s t) = false:=by
      unfold highS
      by_cases hq : lsS t.b s.b = true
      · rw [if_pos hq]; rw [lsS_iff] at hq; rw [lsS_not,lsS_not]; omega
      · rw [if_neg hq]; rw [Bool.not_eq_true,lsS_not] at hq; rw [lsS_not,lsS_not]; omega
    generalize highS s t = hi at *
    unfold lowS at hl
    rcases hq : lsS s.a t.a with _ | _
    · rw [hq] at hl
      simp only [Bool.false_eq_true,if_false] at hl
      have y:=lin_y (P:=s.a) hc ht hq (nls_tr hl hh1.2)
      rw [lsS_iff] at hs ht
      rw [lsS_not] at hq hl hh1
      rw [lsS_not] at hh1
      unfold apart at ha
      simp only [Bool.or_eq_true,decide_eq_true_eq] at ha
      rcases ha with ha | ha
      · unfold mn mx at ha; split at ha <;> split at ha <;> omega
      · have g : mn s.a.y s.b.y ≤ s.a.y ∧ s.a.y ≤ mx s.a.y s.b.y:=by unfold mn mx; split <;> split <;> omega
        generalize mn s.a.y s.b.y = m1 at *
        generalize mx s.a.y s.b.y = m2 at *
        generalize mn t.a.y t.b.y = m3 at *
        generalize mx t.a.y t.b.y = m4 at *
        unfold mn mx at ha; split at ha <;> split at ha <;> omega
    · rw [hq] at hl
      simp only [if_true] at hl
      have y:=lin_y (P:=t.a) h.1 hs (by rw [lsS_iff] at hq; rw [lsS_not]; omega) (nls_tr hl hh1.1)
      rw [lsS_iff] at hs ht hq
      rw [lsS_not] at hl hh1
      rw [lsS_not] at hh1
      unfold apart at ha
      simp only [Bool.or_eq_true,decide_eq_true_eq] at ha
      rcases ha with ha | ha
      · unfold mn mx at ha; split at ha <;> split at ha <;> omega
      · have g : mn t.a.y t.b.y ≤ t.a.y ∧ t.a.y ≤ mx t.a.y t.b.y:=by unfold mn mx; split <;> split <;> omega
        generalize mn s.a.y s.b.y = m1 at *
        generalize mx s.a.y s.b.y = m2 at *
        generalize mn t.a.y t.b.y = m3 at *
        generalize mx t.a.y t.b.y = m4 at *
        unfold mn mx at ha; split at ha <;> split at ha <;> omega
  · rfl
theorem good_ls {s : Sg} (h : s.good = true) : lsS s.a s.b = true:=by simp only [Sg.good,Bool.and_eq_true] at h; exact h.2.2
theorem good_a {s : Sg} (h : s.good = true) : s.a.good = true:=by simp only [Sg.good,Bool.and_eq_true] at h; exact h.1
theorem good_b {s : Sg} (h : s.good = true) : s.b.good = true:=by simp only [Sg.good,Bool.and_eq_true] at h; exact h.2.1
/-- Both ways to the meeting tell the same. -/
theorem meet_eq {s t : Sg} (hs : s.good = true) (ht : t.good = true) : meetI s t = meetS s t:=by
  have ls:=good_ls hs
  have lt:=good_ls ht
  unfold meetI meetS
  by_cases h0 : crs s.a s.b t.a = 0 ∧ crs s.a s.b t.b = 0
  · rw [if_pos h0,if_pos h0]
    split
    · rename_i ha; exact (lin_apart ls lt h0 ha).symm
    · rfl
  · rw [if_neg h0,if_neg h0]
    cases hn : noWay s t
    · obtain ⟨hw,ha⟩:=way_apart ls lt h0 hn
      rw [ha,den_w,x_x,y_y,mkP_neg hw]; rfl
    · split <;> rfl
def mtF (m : Sg → Sg → Int × Pt × Pt) (s t : Sg) : Int × Pt × Pt:=if s.good && t.good then m s t else (0,pt0,pt0)
theorem mtF_eq (s t : Sg) : mtF meetI s t = mtF meetS s t:=by
  unfold mtF; split
  · rename_i h; simp only [Bool.and_eq_true] at h; exact meet_eq h.1 h.2
  · rfl
end Go.Proofs.YtjbbbkfdcegfmaaGreat

/- Rings: their sides, what is not right in them, their areas. -/
namespace Go.Proofs.YtjbbbkfdcegfmaaGreat
open Go Go.RowKit

def sp0 : Sp:=⟨0,0⟩
def gs (r : List Sp) (i : Nat) : Sp:=r.getD i sp0
def segO (a b : Sp) : Sg:=if lsS b a = true then ⟨b,a⟩ else ⟨a,b⟩
def nx1 (r : List Sp) (i : Nat) : Sp:=gs r ((i + 1) % r.length)
def sd (r : List Sp) (i : Nat) : Sg:=segO (gs r i) (nx1 r i)
def mkd (r : List Sp) (i k : Nat) : Int:=(meetI (sd r i) (sd r k)).1
def nxt (n i k : Nat) : Prop:=k + 1 = i ∨ (k = 0 ∧ i + 1 = n)
def rgDup (r : List Sp) : Prop:=∃ i k,k < i ∧ i < r.length ∧ gs r i = gs r k
def rgX (r : List Sp) : Prop:=∃ i k,k < i ∧ i < r.length ∧ (mkd r i k = 2 ∨ (mkd r i k = 1 ∧ ¬ nxt r.length i k))
def spsGood (r : List Sp) : Prop:=∀ p ∈ r,p.good = true
noncomputable def dec (p : Prop) : Bool:=@decide p (Classical.propDecidable p)
theorem dec_t {p : Prop} (h : p) : dec p = true:=by unfold dec; exact @decide_eq_true p (Classical.propDecidable p) h
theorem dec_f {p : Prop} (h : ¬ p) : dec p = false:=by unfold dec; exact @decide_eq_false p (Classical.propDecidable p) h
theorem dec_n {p : Prop} (h : ¬ p) : ¬ dec p = true:=by rw [dec_f h]; simp
theorem dec_iff {p : Prop} : dec p = true ↔ p:=by
  constructor
  · intro h; exact Classical.byContradiction fun hn=>by rw [dec_f hn] at h; simp at h
  · exact dec_t
theorem beqdI (a b : Int) : (a == b) = decide (a = b):=by rw [Bool.eq_iff_iff]; simp
noncomputable def rgF (r : List Sp) : Int:=if r.length < 3 then 1 else if 12 < r.length then 2 else if dec (¬ spsGood r) = true then 3 else if dec (rgDup r) = true then 4 else if dec (rgX r) = true then 5 else 0
theorem crs_l (a b : Sp) : crs a b a = 0:=by unfold crs; grind
theorem crs_r (a b : Sp) : crs a b b = 0:=by unfold crs; grind
/-- Have the sides of two rings a point in common? -/
def rgsMeet (a b : List Sp) : Prop:=∃ i k,i < a.length ∧ k < b.length ∧ (meetI (sd a i) (sd b k)).1 ≠ 0
noncomputable def rgsM (a b : List Sp) : Bool:=dec (rgsMeet a b)
end Go.Proofs.YtjbbbkfdcegfmaaGreat

/- Segments that have ends in common. -/
namespace Go.Proofs.YtjbbbkfdcegfmaaGreat
open Go Go.RowKit

def shr (s t : Sg) : Prop:=s.a = t.a ∨ s.a = t.b ∨ s.b = t.a ∨ s.b = t.b
theorem sp_sm {p : Sp} (h : p.good = true) : sm p.x p.y 1 = true:=by
  have:=Sp.b h
  have e : (2 : Nat) ^ 80 = 1208925819614629174706176:=by decide
  simp only [sm,Bool.and_eq_true,decide_eq_true_eq,bitLen_le,e]; omega
theorem ptS_good {p : Sp} (h : p.good = true) : ptS p = ⟨W4z p.x,W4z p.y,W4z 1⟩:=by
  unfold ptS pt3; rw [if_pos (sp_sm h)]
theorem sp_fits {x : Int} (h : -1000000 ≤ x ∧ x ≤ 1000000) : fits x = true:=by unfold fits; simp; omega
theorem ptS_v {p : Sp} (h : p.good = true) : (ptS p).x.v = p.x ∧ (ptS p).y.v = p.y ∧ (ptS p).w.v = 1:=by
  have:=Sp.b h
  rw [ptS_good h]
  exact ⟨W4z_v (sp_fits (by omega)),W4z_v (sp_fits (by omega)),W4z_v (by decide)⟩
def gg0 : Sg:=⟨sp0,sp0⟩
def gse (L : List Sg) (i : Nat) : Sg:=L.getD i gg0
theorem gse_get {r : List Sg} {i : Nat} (h : i < r.length) : r[i]? = some (gse r i):=by simp [gse,h]
theorem gse_mem {r : List Sg} {i : Nat} (h : i < r.length) : gse r i ∈ r:=List.mem_of_getElem? (gse_get h)
/-- What is not right in segments. -/
def sgGood (L : List Sg) : Prop:=∀ s ∈ L,s.good = true
noncomputable def sgF (L : List Sg) : Int:=if 40 < L.length then 1 else if dec (sgGood L) = true then 0 else 2
theorem sgF_many {L : List Sg} (h : 40 < L.length) : sgF L = 1:=by unfold sgF; rw [if_pos h]
theorem sgF_bad {L : List Sg} (h : ¬ 40 < L.length) {s : Sg} (hs : s ∈ L) (hg : ¬ s.good = true) : sgF L = 2:=by unfold sgF; rw [if_neg h,if_neg (dec_n fun k=>hg (k s hs))]
theorem sgF_ok {L : List Sg} (h : ¬ 40 < L.length) (hg : sgGood L) : sgF L = 0:=by unfold sgF; rw [if_neg h,if_pos (dec_t hg)]
theorem sgF_zero {L : List Sg} (h : sgF L = 0) : L.length ≤ 40 ∧ sgGood L:=by
  unfold sgF at h
  split at h
  · omega
  · split at h
    · rename_i h2; exact ⟨by omega,dec_iff.1 h2⟩
    · omega
end Go.Proofs.YtjbbbkfdcegfmaaGreat

/- Quiet segments, asked. -/
namespace Go.Proofs.YtjbbbkfdcegfmaaGreat
open Go Go.RowKit

theorem sgGood_of {L : List Sg} {n : Nat} (hn : n = L.length) (h : ∀ j,j < n → (gse L j).good = true) : sgGood L:=by
  intro s hs
  obtain ⟨i,hi⟩:=List.getElem?_of_mem hs
  have hl:=(List.getElem?_eq_some_iff.1 hi).1
  rw [gse_get hl] at hi
  rw [← Option.some.inj hi]; exact h i (by omega)
end Go.Proofs.YtjbbbkfdcegfmaaGreat

/- Areas of loops: fractions in lowest terms, added one by one. -/
namespace Go.Proofs.YtjbbbkfdcegfmaaGreat
open Go Go.RowKit

def addQ (p q : Int × Int) : Int × Int:=(lowU (p.1 * q.2 + q.1 * p.2) (p.2 * q.2),lowD (p.1 * q.2 + q.1 * p.2) (p.2 * q.2))
def gp (l : List Pt) (i : Nat) : Pt:=l.getD i pt0
/-- A fraction in lowest terms, its divisor above 0. -/
def redQ (p : Int × Int) : Prop:=0 < p.2 ∧ Int.gcd p.1 p.2 = 1
theorem redQ.low {p : Int × Int} (h : redQ p) : lowU p.1 p.2 = p.1 ∧ lowD p.1 p.2 = p.2:=low_uniq (by have:=h.1; omega) h.1 h.2 rfl
/-- The same fraction by other numbers. -/
def eqQ (u d : Int) (p : Int × Int) : Prop:=0 < d ∧ u * p.2 = p.1 * d
theorem eqQ.low {u d : Int} {p : Int × Int} (h : eqQ u d p) (hr : redQ p) : lowU u d = p.1 ∧ lowD u d = p.2:=low_uniq (by have:=h.1; omega) hr.1 hr.2 h.2.symm
theorem eqQ.step {u d c w : Int} {p : Int × Int} (h : eqQ u d p) (hr : redQ p) (hw : 0 < w) : eqQ (u * (w / gg d w) + c * (d / gg d w)) (d * (w / gg d w)) (addQ p (c,w)):=by
  obtain ⟨hd,he⟩:=h
  have hg:=gg_pos (u:=d) (d:=w) (by omega)
  have k1 : w / gg d w * gg d w = w:=Int.ediv_mul_cancel (gg_r d w)
  have m1 : d / gg d w * gg d w = d:=Int.ediv_mul_cancel (gg_l d w)
  generalize gg d w = g at *
  generalize w / g = k at *
  generalize d / g = m at *
  have hk : 0 < k:=by
    rcases Int.lt_trichotomy k 0 with h0 | h0 | h0
    · have:=Int.mul_neg_of_neg_of_pos h0 hg; omega
    · subst h0; omega
    · exact h0
  refine ⟨Int.mul_pos hd hk,?_⟩
  have hpw : p.2 * w ≠ 0:=Int.mul_ne_zero (by have:=hr.1; omega) (by omega)
  have lc:=low_cross (u:=p.1 * w + c * p.2) hpw
  have lc : (addQ p (c,w)).1 * (p.2 * w) = (p.1 * w + c * p.2) * (addQ p (c,w)).2:=lc
  generalize (addQ p (c,w)).1 = U at *
  generalize (addQ p (c,w)).2 = D at *
  refine Int.eq_of_mul_eq_mul_right hpw ?_
  have e1 : U * (d * k) * (p.2 * w) = (U * (p.2 * w)) * (d * k):=by grind
  rw [e1,lc,← k1,← m1]
  have he2 : u * p.2 = p.1 * (m * g):=by rw [m1]; exact he
  have e2 : (u * k + c * m) * D * (p.2 * (k * g)) = (D * k * g) * (k * (u * p.2) + c * m * p.2):=by grind
  rw [e2,he2]
  grind
theorem eqQ.one : eqQ 0 1 (0,1):=⟨by decide,rfl⟩
end Go.Proofs.YtjbbbkfdcegfmaaGreat

/- Rings turned. -/
namespace Go.Proofs.YtjbbbkfdcegfmaaGreat
open Go Go.RowKit

/-- Rows of two numbers, as they are marked. -/
def m2 (k : Int) (j : Nat) : List AV:=[.int .i64 (k + 2 * (j : Int)),.int .i64 (k + 2 * (j : Int) + 1)]
theorem lv_int (H : Heap) (k : Nat) (t : IntKind) (n : Int) : lv H k (.int t n) = .int t n:=by cases k <;> rfl
theorem lv_bool (H : Heap) (k : Nat) (b : Bool) : lv H k (.bool b) = .bool b:=by cases k <;> rfl
theorem lv_nsl (H : Heap) (k : Nat) : lv H k .nsl = .nsl:=by cases k <;> rfl
theorem lv_sp (H : Heap) (k : Nat) : (List.map (lv H k) ∘ Sp.cells) = Sp.cells:=by funext p; simp [Sp.cells,lv_int]
theorem lv_sg (H : Heap) (k : Nat) : (List.map (lv H k) ∘ Sg.cells) = Sg.cells:=by funext p; simp [Sg.cells,lv_int]
theorem lv_m2 (H : Heap) (k : Nat) (c : Int) (n : Nat) : List.map (List.map (lv H k)) (mkR (m2 c) n) = mkR (m2 c) n:=by
  unfold mkR; rw [List.map_map]; congr 1; funext j; simp [m2,lv_int]
end Go.Proofs.YtjbbbkfdcegfmaaGreat

/- Pairs of segments that meet. -/
namespace Go.Proofs.YtjbbbkfdcegfmaaGreat
open Go Go.RowKit

/-- Rows of four numbers, as they are marked. -/
def m4 (k : Int) (j : Nat) : List AV:=[.int .i64 (k + 4 * (j : Int)),.int .i64 (k + 4 * (j : Int) + 1),.int .i64 (k + 4 * (j : Int) + 1 + 1),.int .i64 (k + 4 * (j : Int) + 1 + 1 + 1)]
end Go.Proofs.YtjbbbkfdcegfmaaGreat

/- Points in order: the plain law. -/
namespace Go.Proofs.YtjbbbkfdcegfmaaGreat
open Go Go.RowKit

theorem sm_b {x y w : Int} (h : sm x y w = true) : x.natAbs < 1208925819614629174706176 ∧ y.natAbs < 1208925819614629174706176 ∧ w.natAbs < 1208925819614629174706176:=by
  have e : (2 : Nat) ^ 80 = 1208925819614629174706176:=by decide
  simp only [sm,Bool.and_eq_true,decide_eq_true_eq,bitLen_le,e] at h
  omega
theorem fits_b {z : Int} (h : z.natAbs < 57896044618658097711785492504343953926634992332820282019728792003956564819968) : fits z = true:=by
  unfold fits; simp; omega
end Go.Proofs.YtjbbbkfdcegfmaaGreat

/- Points halved, squares of distances: the plain laws. -/
namespace Go.Proofs.YtjbbbkfdcegfmaaGreat
open Go Go.RowKit

theorem told_scale {u d u' d' : Int} (h : d ≠ 0) (h' : d' ≠ 0) (e : u * d' = u' * d) : told u d = told u' d':=by
  have c:=@low_cross u' d' h'
  obtain ⟨e1,e2⟩:=low_uniq (u:=u) (d:=d) h (lowD_pos (u:=u') h') (low_red h') (by
    have : lowU u' d' * d * d' = u * lowD u' d' * d':=by grind
    exact Int.eq_of_mul_eq_mul_right h' this)
  rw [told_fit h,told_fit h',e1,e2]
theorem gcd3_dvd (x y w : Int) : gcd3 x y w ∣ x ∧ gcd3 x y w ∣ y ∧ gcd3 x y w ∣ w:=by
  unfold gcd3
  have h1 : ((Nat.gcd (Int.gcd x y) w.natAbs : Nat) : Int) ∣ ((Int.gcd x y : Nat) : Int):=Int.ofNat_dvd.2 (Nat.gcd_dvd_left _ _)
  exact ⟨Int.dvd_trans h1 (Int.gcd_dvd_left ..),Int.dvd_trans h1 (Int.gcd_dvd_right ..),Int.dvd_natAbs.1 (Int.ofNat_dvd.2 (Nat.gcd_dvd_right _ _))⟩
theorem gcd3_sc (x y w g : Int) : gcd3 (x * g) (y * g) (w * g) = gcd3 x y w * (g.natAbs : Int):=by
  unfold gcd3 Int.gcd
  rw [Int.natAbs_mul,Int.natAbs_mul,Int.natAbs_mul,Nat.gcd_mul_right,Nat.gcd_mul_right,Int.natCast_mul]
theorem mkP_good {x y w : Int} (h : mkB x y w = true) : w ≠ 0 ∧ (mkP x y w).good = true ∧ (mkP x y w).x.v * w = x * (mkP x y w).w.v ∧ (mkP x y w).y.v * w = y * (mkP x y w).w.v:=by
  unfold mkB at h
  split at h
  · simp at h
  · rename_i hw
    refine ⟨hw,?_⟩
    have hg : 0 < gcd3 x y w:=gcd3_pos hw
    have e:=gcd3_nrm x y w
    obtain ⟨d1,d2,d3⟩:=gcd3_dvd (nrm w x) (nrm w y) (nrm w w)
    rw [e] at d1 d2 d3
    have eX:=Int.ediv_mul_cancel d1
    have eY:=Int.ediv_mul_cancel d2
    have eW:=Int.ediv_mul_cancel d3
    have cX:=nrm_cross x w
    have cY:=nrm_cross y w
    have hp:=nrm_pos hw
    unfold mkP
    rw [if_neg hw]
    unfold pt3
    rw [if_pos h]
    generalize gcd3 x y w = g at *
    generalize nrm w x / g = X at *
    generalize nrm w y / g = Y at *
    generalize nrm w w / g = W at *
    have hb:=sm_b h
    have vX : (W4z X).v = X:=W4z_v (fits_b (by omega))
    have vY : (W4z Y).v = Y:=W4z_v (fits_b (by omega))
    have vW : (W4z W).v = W:=W4z_v (fits_b (by omega))
    have hW : 0 < W:=by
      rcases Int.lt_or_le 0 W with k | k
      · exact k
      · have:=Int.mul_nonpos_of_nonpos_of_nonneg k (Int.le_of_lt hg); omega
    rw [← eX,← eW] at cX
    rw [← eY,← eW] at cY
    rw [← eX,← eY,← eW,gcd3_sc] at e
    have h1 : gcd3 X Y W = 1:=by
      have : gcd3 X Y W * g = 1 * g := by rw [Int.one_mul]; have : (g.natAbs : Int) = g := by omega
                                          rw [this] at e; exact e
      exact Int.eq_of_mul_eq_mul_right (by omega) this
    refine ⟨?_,?_,?_⟩
    · unfold Pt.good
      simp only [vX,vY,vW,h,Bool.and_true,Bool.and_eq_true,decide_eq_true_eq]
      refine ⟨hW,?_⟩
      unfold gcd3 at h1; omega
    · simp only [vX,vW]
      exact Int.eq_of_mul_eq_mul_right (show g ≠ 0 by omega) (by grind)
    · simp only [vY,vW]
      exact Int.eq_of_mul_eq_mul_right (show g ≠ 0 by omega) (by grind)
def dX (p q : Pt) : Int:=p.x.v * q.w.v - q.x.v * p.w.v
def dY (p q : Pt) : Int:=p.y.v * q.w.v - q.y.v * p.w.v
def dN (p q : Pt) : Int:=dX p q * dX p q + dY p q * dY p q
def dD (p q : Pt) : Int:=(p.w.v * q.w.v) * (p.w.v * q.w.v)
def d2F (p q : Pt) : Rt × Bool:=if (p.good && q.good) = true then told (dN p q) (dD p q) else (Rt0,false)
theorem d2F_good {p q : Pt} (hp : p.good = true) (hq : q.good = true) : d2F p q = told (dN p q) (dD p q):=by unfold d2F; rw [hp,hq]; rfl
theorem dD_pos {p q : Pt} (hp : p.good = true) (hq : q.good = true) : 0 < dD p q:=by
  have:=Int.mul_pos (good_pos hp) (good_pos hq)
  exact Int.mul_pos this this
/-- What a middle is. -/
structure Mid (p q m : Pt) : Prop where
  gp : p.good = true
  gq : q.good = true
  gm : m.good = true
  hx : m.x.v * (2 * (p.w.v * q.w.v)) = (p.x.v * q.w.v + q.x.v * p.w.v) * m.w.v
  hy : m.y.v * (2 * (p.w.v * q.w.v)) = (p.y.v * q.w.v + q.y.v * p.w.v) * m.w.v
section
variable {p q m : Pt} (M : Mid p q m)
include M
theorem Mid.dx1 : dX p m * (2 * (p.w.v * q.w.v)) = dX p q * (m.w.v * p.w.v):=by have:=M.hx; unfold dX; grind
theorem Mid.dy1 : dY p m * (2 * (p.w.v * q.w.v)) = dY p q * (m.w.v * p.w.v):=by have:=M.hy; unfold dY; grind
theorem Mid.dx2 : dX m q * (2 * (p.w.v * q.w.v)) = dX p q * (m.w.v * q.w.v):=by have:=M.hx; unfold dX; grind
theorem Mid.dy2 : dY m q * (2 * (p.w.v * q.w.v)) = dY p q * (m.w.v * q.w.v):=by have:=M.hy; unfold dY; grind
theorem Mid.d1 : d2F p m = told (dN p q) (4 * dD p q):=by
  rw [d2F_good M.gp M.gm]
  have a:=dD_pos M.gp M.gq
  have b:=dD_pos M.gp M.gm
  have h1:=M.dx1
  have h2:=M.dy1
  refine told_scale (by omega) (by omega) ?_
  unfold dN dD; grind
theorem Mid.d2 : d2F m q = told (dN p q) (4 * dD p q):=by
  rw [d2F_good M.gm M.gq]
  have a:=dD_pos M.gp M.gq
  have b:=dD_pos M.gm M.gq
  have h1:=M.dx2
  have h2:=M.dy2
  refine told_scale (by omega) (by omega) ?_
  unfold dN dD; grind
end
end Go.Proofs.YtjbbbkfdcegfmaaGreat

/- A segment over a point: the plain law. -/
namespace Go.Proofs.YtjbbbkfdcegfmaaGreat
open Go Go.RowKit

def sdZ (s : Sg) (p : Pt) : Int:=(s.b.x - s.a.x) * (p.y.v - s.a.y * p.w.v) - (s.b.y - s.a.y) * (p.x.v - s.a.x * p.w.v)
def sdF (s : Sg) (p : Pt) : Int:=sg3 (sdZ s p)
def onF (s : Sg) (p : Pt) : Bool:=decide (cmV (ptS s.a) p ≤ 0) && (decide (cmV p (ptS s.b) ≤ 0) && (sdF s p == 0))
theorem good_ax {s : Sg} (h : s.good = true) : s.a.x < s.b.x ∨ (s.a.x = s.b.x ∧ s.a.y < s.b.y):=by
  have:=good_ls h; simpa [lsS] using this
theorem det_spot {s : Sg} (h : s.good = true) (p : Pt) : det (ptS s.a) (ptS s.b) p = sdZ s p:=by
  obtain ⟨v1,v2,v3⟩:=ptS_v (good_a h)
  obtain ⟨w1,w2,w3⟩:=ptS_v (good_b h)
  unfold det sdZ; rw [v1,v2,v3,w1,w2,w3]; grind
theorem cmV_le {p q : Pt} : cmV p q ≤ 0 ↔ cmX p q < 0 ∨ (cmX p q = 0 ∧ cmY p q ≤ 0):=by
  unfold cmV
  have:=cm_b (p.x.v * q.w.v) (q.x.v * p.w.v)
  by_cases h : cmX p q = 0
  · rw [if_neg (by omega)]; omega
  · rw [if_pos h]; omega
theorem cm_le {a b : Int} : cm a b ≤ 0 ↔ a ≤ b:=by unfold cm; split <;> (try split) <;> omega
theorem on_iff {s : Sg} (h : s.good = true) (p : Pt) : onF s p = true ↔ ((s.a.x * p.w.v < p.x.v ∨ (s.a.x * p.w.v = p.x.v ∧ s.a.y * p.w.v ≤ p.y.v)) ∧ (p.x.v < s.b.x * p.w.v ∨ (p.x.v = s.b.x * p.w.v ∧ p.y.v ≤ s.b.y * p.w.v)) ∧ sdZ s p = 0):=by
  obtain ⟨v1,v2,v3⟩:=ptS_v (good_a h)
  obtain ⟨w1,w2,w3⟩:=ptS_v (good_b h)
  unfold onF
  simp only [Bool.and_eq_true,decide_eq_true_eq,beq_iff_eq]
  rw [cmV_le,cmV_le]
  unfold cmX cmY sdF
  rw [v1,v2,v3,w1,w2,w3,sg3_zero]
  simp only [cm_lt,cm_eq,cm_le,Int.mul_one]
end Go.Proofs.YtjbbbkfdcegfmaaGreat

/- Nought away is on the segment: the plain law. -/
namespace Go.Proofs.YtjbbbkfdcegfmaaGreat
open Go Go.RowKit

theorem ptS_gd {p : Sp} (h : p.good = true) : (ptS p).good = true:=by
  obtain ⟨v1,v2,v3⟩:=ptS_v h
  unfold Pt.good
  rw [v1,v2,v3,sp_sm h]
  simp
end Go.Proofs.YtjbbbkfdcegfmaaGreat

/- Segments that meet: what is common to both. -/
namespace Go.Proofs.YtjbbbkfdcegfmaaGreat
open Go Go.RowKit

/-- On a segment, told by weights. -/
def onC (s : Sg) (q : Pt) : Prop:=∃ m n : Int,0 ≤ m ∧ 0 ≤ n ∧ 0 < m + n ∧ q.x.v * (m + n) = (s.a.x * m + s.b.x * n) * q.w.v ∧ q.y.v * (m + n) = (s.a.y * m + s.b.y * n) * q.w.v
theorem of_onC {s : Sg} {q : Pt} (h : s.good = true) (hq : 0 < q.w.v) (ho : onC s q) : onF s q = true:=by
  obtain ⟨m,n,hm,hn,hk,ex,ey⟩:=ho
  rw [on_iff h]
  have hz : sdZ s q = 0:=by
    have : sdZ s q * (m + n) = 0:=by unfold sdZ; grind
    rcases Int.mul_eq_zero.1 this with e | e
    · exact e
    · omega
  have ax : (q.x.v - s.a.x * q.w.v) * (m + n) = (s.b.x - s.a.x) * (n * q.w.v):=by grind
  have bx : (s.b.x * q.w.v - q.x.v) * (m + n) = (s.b.x - s.a.x) * (m * q.w.v):=by grind
  have ay : (q.y.v - s.a.y * q.w.v) * (m + n) = (s.b.y - s.a.y) * (n * q.w.v):=by grind
  have bY : (s.b.y * q.w.v - q.y.v) * (m + n) = (s.b.y - s.a.y) * (m * q.w.v):=by grind
  have nw:=Int.mul_nonneg hn (Int.le_of_lt hq)
  have mw:=Int.mul_nonneg hm (Int.le_of_lt hq)
  have pos : ∀ u z : Int,u * (m + n) = z → 0 ≤ z → 0 ≤ u:=fun u z e hz=>by
    rcases Int.lt_or_le u 0 with w | w
    · have:=Int.mul_neg_of_neg_of_pos w hk; omega
    · exact w
  have zer : ∀ u z : Int,u * (m + n) = z → u = 0 → z = 0:=fun u z e h0=>by rw [h0,Int.zero_mul] at e; exact e.symm
  refine ⟨?_,?_,hz⟩
  · rcases good_ax h with k | ⟨k0,k⟩
    · have:=pos _ _ ax (Int.mul_nonneg (by omega) nw)
      rcases Int.lt_or_le 0 (q.x.v - s.a.x * q.w.v) with w | w
      · left; omega
      · right
        have e0:=zer _ _ ax (by omega)
        have : n * q.w.v = 0:=by rcases Int.mul_eq_zero.1 e0 with e | e <;> omega
        rw [this,Int.mul_zero] at ay
        have:=pos _ _ ay (by omega)
        omega
    · right
      rw [k0,Int.sub_self,Int.zero_mul] at ax
      have e0 : q.x.v - s.b.x * q.w.v = 0:=by rcases Int.mul_eq_zero.1 ax with e | e <;> omega
      have:=pos _ _ ay (Int.mul_nonneg (by omega) nw)
      rw [k0]; omega
  · rcases good_ax h with k | ⟨k0,k⟩
    · have:=pos _ _ bx (Int.mul_nonneg (by omega) mw)
      rcases Int.lt_or_le 0 (s.b.x * q.w.v - q.x.v) with w | w
      · left; omega
      · right
        have e0:=zer _ _ bx (by omega)
        have : m * q.w.v = 0:=by rcases Int.mul_eq_zero.1 e0 with e | e <;> omega
        rw [this,Int.mul_zero] at bY
        have:=pos _ _ bY (by omega)
        omega
    · right
      rw [k0,Int.sub_self,Int.zero_mul] at bx
      have e0 : s.b.x * q.w.v - q.x.v = 0:=by rcases Int.mul_eq_zero.1 bx with e | e <;> omega
      have:=pos _ _ bY (Int.mul_nonneg (by omega) mw)
      omega
theorem on_a {s : Sg} (h : s.good = true) : onF s (ptS s.a) = true:=by
  obtain ⟨v1,v2,v3⟩:=ptS_v (good_a h)
  exact of_onC h (by omega) ⟨1,0,by omega,by omega,by omega,by rw [v1,v3]; omega,by rw [v2,v3]; omega⟩
theorem on_b {s : Sg} (h : s.good = true) : onF s (ptS s.b) = true:=by
  obtain ⟨v1,v2,v3⟩:=ptS_v (good_b h)
  exact of_onC h (by omega) ⟨0,1,by omega,by omega,by omega,by rw [v1,v3]; omega,by rw [v2,v3]; omega⟩
end Go.Proofs.YtjbbbkfdcegfmaaGreat

/- Segments that meet: a common point, the ends. -/
namespace Go.Proofs.YtjbbbkfdcegfmaaGreat
open Go Go.RowKit

theorem lsS_if {p q : Sp} : lsS p q = true ↔ p.x < q.x ∨ (p.x = q.x ∧ p.y < q.y):=by simp [lsS]
/-- Of one line: the other's line too. -/
theorem col_sym {s t : Sg} (hs : s.good = true) (h : crs s.a s.b t.a = 0 ∧ crs s.a s.b t.b = 0) : crs t.a t.b s.a = 0 ∧ crs t.a t.b s.b = 0:=by
  obtain ⟨h1,h2⟩:=h
  have k1 : (s.b.x - s.a.x) * crs t.a t.b s.a = 0 ∧ (s.b.y - s.a.y) * crs t.a t.b s.a = 0 ∧ (s.b.x - s.a.x) * crs t.a t.b s.b = 0 ∧ (s.b.y - s.a.y) * crs t.a t.b s.b = 0:=by
    unfold crs at *
    refine ⟨?_,?_,?_,?_⟩ <;> grind
  obtain ⟨c1,c2,c3,c4⟩:=k1
  rcases good_ax hs with k | ⟨_,k⟩
  · constructor
    · rcases Int.mul_eq_zero.1 c1 with e | e <;> omega
    · rcases Int.mul_eq_zero.1 c3 with e | e <;> omega
  · constructor
    · rcases Int.mul_eq_zero.1 c2 with e | e <;> omega
    · rcases Int.mul_eq_zero.1 c4 with e | e <;> omega
end Go.Proofs.YtjbbbkfdcegfmaaGreat

/- Segments that cross: the point. -/
namespace Go.Proofs.YtjbbbkfdcegfmaaGreat
open Go Go.RowKit

theorem natAbs_nrm (w x : Int) : (nrm w x).natAbs = x.natAbs:=by unfold nrm; split <;> omega
theorem mkB_of {x y w : Int} (hw : w ≠ 0) (hx : x.natAbs < 1208925819614629174706176) (hy : y.natAbs < 1208925819614629174706176) (hz : w.natAbs < 1208925819614629174706176) : mkB x y w = true:=by
  unfold mkB
  rw [if_neg hw]
  have b:=fun z=>Int.natAbs_ediv_le_natAbs (nrm w z) (gcd3 x y w)
  have b1:=b x
  have b2:=b y
  have b3:=b w
  rw [natAbs_nrm] at b1 b2 b3
  have e : (2 : Nat) ^ 80 = 1208925819614629174706176:=by decide
  simp only [sm,Bool.and_eq_true,decide_eq_true_eq,bitLen_le,e]
  omega
/-- The weights of the crossing. -/
theorem cross_t {s t : Sg} {p : Pt} (hp : 0 < p.w.v) {c d : Int} (hc : c = crs s.a s.b t.a) (hd : d = crs s.a s.b t.b) (h : (c ≤ 0 ∧ 0 ≤ d) ∨ (0 ≤ c ∧ d ≤ 0)) (hw : c - d ≠ 0)
    (ex : p.x.v * (c - d) = (t.a.x * (c - d) + c * (t.b.x - t.a.x)) * p.w.v) (ey : p.y.v * (c - d) = (t.a.y * (c - d) + c * (t.b.y - t.a.y)) * p.w.v) : onC t p:=by
  rcases h with ⟨h1,h2⟩ | ⟨h1,h2⟩
  · exact ⟨d,-c,by omega,by omega,by omega,by grind,by grind⟩
  · exact ⟨-d,c,by omega,by omega,by omega,by grind,by grind⟩
theorem way_sw (s t : Sg) : wayX t s = -wayX s t ∧ wayY t s = -wayY s t ∧ wayW t s = -wayW s t:=by
  unfold wayX wayY wayW crs
  refine ⟨?_,?_,?_⟩ <;> grind
theorem way_b {s t : Sg} (hs : s.good = true) (ht : t.good = true) : (wayX s t).natAbs < 1208925819614629174706176 ∧ (wayY s t).natAbs < 1208925819614629174706176 ∧ (wayW s t).natAbs < 1208925819614629174706176:=by
  obtain ⟨a1,a2,a3,a4⟩:=Sp.b (good_a ht)
  obtain ⟨b1,b2,b3,b4⟩:=Sp.b (good_b ht)
  obtain ⟨c1,c2⟩:=crs_b (good_a hs) (good_b hs) (good_a ht)
  obtain ⟨d1,d2⟩:=crs_b (good_a hs) (good_b hs) (good_b ht)
  have w1 : -16000000000000 ≤ wayW s t ∧ wayW s t ≤ 16000000000000:=by unfold wayW; omega
  have m1:=mul_b (m:=1000000) (n:=16000000000000) (by omega) a1 a2 w1.1 w1.2
  have m2:=mul_b (m:=1000000) (n:=16000000000000) (by omega) a3 a4 w1.1 w1.2
  have m3:=mul_b (u:=crs s.a s.b t.a) (v:=t.b.x - t.a.x) (m:=8000000000000) (n:=2000000) (by omega) c1 c2 (by omega) (by omega)
  have m4:=mul_b (u:=crs s.a s.b t.a) (v:=t.b.y - t.a.y) (m:=8000000000000) (n:=2000000) (by omega) c1 c2 (by omega) (by omega)
  unfold wayX wayY
  omega
/-- Where two segments cross is on both. -/
theorem cross_on {s t : Sg} (hs : s.good = true) (ht : t.good = true) (h0 : ¬ (crs s.a s.b t.a = 0 ∧ crs s.a s.b t.b = 0)) (hn : noWay s t = false) :
    (mkP (wayX s t) (wayY s t) (wayW s t)).good = true ∧ onF s (mkP (wayX s t) (wayY s t) (wayW s t)) = true ∧ onF t (mkP (wayX s t) (wayY s t) (wayW s t)) = true:=by
  obtain ⟨hw,_⟩:=way_apart (good_ls hs) (good_ls ht) h0 hn
  obtain ⟨b1,b2,b3⟩:=way_b hs ht
  obtain ⟨_,g,ex,ey⟩:=mkP_good (mkB_of hw b1 b2 b3)
  obtain ⟨s1,s2,s3⟩:=way_sw s t
  unfold noWay at hn
  simp only [Bool.or_eq_false_iff,decide_eq_false_iff_not] at hn
  have k1:=sg_mul_neg hn.1
  have k2:=sg_mul_neg hn.2
  have hp:=good_pos g
  generalize mkP (wayX s t) (wayY s t) (wayW s t) = P at *
  refine ⟨g,of_onC hs hp (cross_t hp rfl rfl k2 (by unfold wayW at s3 hw; omega) ?_ ?_),of_onC ht hp (cross_t hp rfl rfl k1 hw ex ey)⟩
  · have e : P.x.v * wayW t s = wayX t s * P.w.v:=by rw [s1,s3]; grind
    exact e
  · have e : P.y.v * wayW t s = wayY t s * P.w.v:=by rw [s2,s3]; grind
    exact e
end Go.Proofs.YtjbbbkfdcegfmaaGreat

/- Segments that meet: the plain law. -/
namespace Go.Proofs.YtjbbbkfdcegfmaaGreat
open Go Go.RowKit

def leS (p q : Sp) : Prop:=p.x < q.x ∨ (p.x = q.x ∧ p.y ≤ q.y)
theorem on_spot {s : Sg} {p : Sp} (h : s.good = true) (hp : p.good = true) : onF s (ptS p) = true ↔ leS s.a p ∧ leS p s.b ∧ crs s.a s.b p = 0:=by
  obtain ⟨v1,v2,v3⟩:=ptS_v hp
  rw [on_iff h]
  have e : sdZ s (ptS p) = crs s.a s.b p:=by unfold sdZ crs; rw [v1,v2,v3,Int.mul_one,Int.mul_one]
  rw [e,v1,v2,v3,Int.mul_one,Int.mul_one,Int.mul_one,Int.mul_one]
  exact Iff.rfl
theorem low_c (s t : Sg) : (lowS s t = s.a ∨ lowS s t = t.a) ∧ leS s.a (lowS s t) ∧ leS t.a (lowS s t):=by
  unfold lowS leS; split
  · rename_i h; rw [lsS_if] at h; exact ⟨Or.inr rfl,by omega,by omega⟩
  · rename_i h; rw [lsS_if] at h; exact ⟨Or.inl rfl,by omega,by omega⟩
theorem high_c (s t : Sg) : (highS s t = s.b ∨ highS s t = t.b) ∧ leS (highS s t) s.b ∧ leS (highS s t) t.b:=by
  unfold highS leS; split
  · rename_i h; rw [lsS_if] at h; exact ⟨Or.inr rfl,by omega,by omega⟩
  · rename_i h; rw [lsS_if] at h; exact ⟨Or.inl rfl,by omega,by omega⟩
theorem lin_on {s t : Sg} (hs : s.good = true) (ht : t.good = true) (h0 : crs s.a s.b t.a = 0 ∧ crs s.a s.b t.b = 0) (hl : ¬ lsS (highS s t) (lowS s t) = true) :
    ((lowS s t).good = true ∧ (highS s t).good = true) ∧ (onF s (ptS (lowS s t)) = true ∧ onF t (ptS (lowS s t)) = true) ∧ (onF s (ptS (highS s t)) = true ∧ onF t (ptS (highS s t)) = true):=by
  obtain ⟨l0,l1,l2⟩:=low_c s t
  obtain ⟨g0,g1,g2⟩:=high_c s t
  have hc:=col_sym hs h0
  rw [lsS_if] at hl
  have gl : (lowS s t).good = true:=by rcases l0 with e | e <;> rw [e]; exact good_a hs; exact good_a ht
  have gg' : (highS s t).good = true:=by rcases g0 with e | e <;> rw [e]; exact good_b hs; exact good_b ht
  have c1 : crs s.a s.b (lowS s t) = 0:=by rcases l0 with e | e <;> rw [e]; exact crs_l _ _; exact h0.1
  have c2 : crs t.a t.b (lowS s t) = 0:=by rcases l0 with e | e <;> rw [e]; exact hc.1; exact crs_l _ _
  have c3 : crs s.a s.b (highS s t) = 0:=by rcases g0 with e | e <;> rw [e]; exact crs_r _ _; exact h0.2
  have c4 : crs t.a t.b (highS s t) = 0:=by rcases g0 with e | e <;> rw [e]; exact hc.2; exact crs_r _ _
  rw [on_spot hs gl,on_spot ht gl,on_spot hs gg',on_spot ht gg']
  generalize lowS s t = l at *
  generalize highS s t = g at *
  unfold leS at *
  refine ⟨⟨gl,gg'⟩,⟨⟨l1,by omega,c1⟩,⟨l2,by omega,c2⟩⟩,⟨⟨by omega,g1,c3⟩,⟨by omega,g2,c4⟩⟩⟩
/-- What a meeting tells. -/
theorem meet_one {s t : Sg} (hs : s.good = true) (ht : t.good = true) (h : (meetI s t).1 = 1) : (meetI s t).2.1.good = true ∧ onF s (meetI s t).2.1 = true ∧ onF t (meetI s t).2.1 = true:=by
  rw [meet_eq hs ht] at h ⊢
  unfold meetS at h ⊢
  by_cases h0 : crs s.a s.b t.a = 0 ∧ crs s.a s.b t.b = 0
  · rw [if_pos h0] at h ⊢
    unfold linP at h ⊢
    split at h
    · simp at h
    · rename_i hl
      split at h
      · rename_i he
        rw [if_neg hl,if_pos he]
        obtain ⟨⟨a,_⟩,⟨b,c⟩,_⟩:=lin_on hs ht h0 hl
        exact ⟨ptS_gd a,b,c⟩
      · simp at h
  · rw [if_neg h0] at h ⊢
    split at h
    · simp at h
    · rename_i hn
      rw [if_neg hn]
      have hn' : noWay s t = false:=by simpa using hn
      obtain ⟨hw,_⟩:=way_apart (good_ls hs) (good_ls ht) h0 hn'
      have e1 : mkP (wayX2 s t) (wayY2 s t) (denS s t) = mkP (wayX s t) (wayY s t) (wayW s t):=by rw [den_w,x_x,y_y,mkP_neg hw]
      simp only [e1]
      exact cross_on hs ht h0 hn'
end Go.Proofs.YtjbbbkfdcegfmaaGreat

/- Segments that meet: what the statement asks of a meeting. -/
namespace Go.Proofs.YtjbbbkfdcegfmaaGreat
open Go Go.RowKit

theorem meetS_ok (s t : Sg) : (meetS s t).2.1.ok ∧ (meetS s t).2.2.ok:=by
  unfold meetS linP
  have p0:=pt0_ok
  have ps : ∀ p,(ptS p).ok:=fun p=>pt3_ok _ _ _
  split
  · split
    · exact ⟨p0,p0⟩
    · split
      · exact ⟨ps _,p0⟩
      · exact ⟨ps _,ps _⟩
  · split
    · exact ⟨p0,p0⟩
    · exact ⟨mkP_ok _ _ _,p0⟩
theorem mtF_ok (s t : Sg) : (mtF meetI s t).2.1.ok ∧ (mtF meetI s t).2.2.ok:=by
  rw [mtF_eq]; unfold mtF; split
  · exact meetS_ok s t
  · exact ⟨pt0_ok,pt0_ok⟩
theorem mtF_good {s t : Sg} (hs : s.good = true) (ht : t.good = true) : mtF meetI s t = meetI s t:=by unfold mtF; rw [hs,ht]; rfl
end Go.Proofs.YtjbbbkfdcegfmaaGreat

/- Layers: faults, sides, depths, areas. -/
namespace Go.Proofs.YtjbbbkfdcegfmaaGreat
open Go Go.RowKit

def gr (L : List (List Sp)) (i : Nat) : List Sp:=L.getD i []
theorem gr_get {L : List (List Sp)} {i : Nat} (h : i < L.length) : L[i]? = some (gr L i):=by simp [gr,h]
def lyN : List (List Sp) → Nat
  | []=>0
  | r :: R=>r.length + lyN R
structure LyOk (L : List (List Sp)) : Prop where
  len : L.length ≤ 6
  spots : lyN L ≤ 20
  ok : ∀ r ∈ L,rgF r = 0
  apart : ∀ i k,i < L.length → k < L.length → k ≠ i → rgsM (gr L i) (gr L k) = false
/-! Where a point lies to a layer. -/
/-! Depths. -/
/-! Areas. -/
end Go.Proofs.YtjbbbkfdcegfmaaGreat

/- Rows of one's own that are sorted, by the kit's plain sort. -/
namespace Go.Proofs.YtjbbbkfdcegfmaaGreat
open Go Go.RowKit

section
variable {α : Type}
def rwA (c : α → List AV) (d : Array α) : List (List AV):=d.toList.map c
end
section
variable {α : Type} [Inhabited α]
/-- The element at a place. -/
def gA (d : Array α) (i : Nat) : α:=d[i]!
theorem rwA_get {c : α → List AV} {d : Array α} {i : Nat} (h : i < d.size) : (rwA c d)[i]? = some (c (gA d i)):=by
  simp only [gA] at *
  simp [rwA,h]
/-- A comparison that only computes. -/
def CmpF (P : Program) (f : FuncId) (caps : List AV) (av : α → AV) (cv : α → α → Int) : Prop:=hasBody P f = true ∧ ∀ x y,FC P f (av x :: av y :: caps) (.int .i64 (cv x y))
def ltc (cv : α → α → Int) : α → α → Bool:=fun x y=>decide (cv x y < 0)
variable (lt : α → α → Bool)
def hnt (w : Nat) : Int:=if w = 0 then 1 else if w = 12 then 2 else 0
end
end Go.Proofs.YtjbbbkfdcegfmaaGreat

/- Segments in order: the sides of a layer. -/
namespace Go.Proofs.YtjbbbkfdcegfmaaGreat
open Go Go.RowKit

/-- The first number that is not 0. -/
def orL : List Int → Int
  | []=>0
  | x :: r=>if x ≠ 0 then x else orL r
theorem orL_step {l : List Int} {i : Nat} (h : i < l.length) : orL (l.drop i) = if gt l i ≠ 0 then gt l i else orL (l.drop (i + 1)):=by
  rw [List.drop_eq_getElem_cons h,orL,gt_of (List.getElem?_eq_getElem h)]
instance : Inhabited Sg:=⟨⟨⟨0,0⟩,⟨0,0⟩⟩⟩
theorem sort_list {α : Type} [Inhabited α] {lt : α → α → Bool} (hs : Sort.SWO lt) (l : List α) : (Sort.sort lt l.toArray).toList.Perm l ∧ (Sort.sort lt l.toArray).toList.Pairwise (fun x y=>lt y x = false):=by
  obtain ⟨⟨h1,h2,h3⟩,h4⟩:=Sort.sort_sorts lt hs l.toArray
  have hz : (Sort.sort lt l.toArray).size = l.length:=by rw [h1]; simp
  have e1 : (Sort.sort lt l.toArray).extract 0 l.toArray.size = Sort.sort lt l.toArray:=by rw [← h1]; simp
  have e2 : l.toArray.extract 0 l.toArray.size = l.toArray:=by simp
  refine ⟨by rw [e1,e2] at h3; simpa using h3,?_⟩
  rw [List.pairwise_iff_getElem]
  intro i j hi hj hij
  have hi' : i < (Sort.sort lt l.toArray).size:=by simpa using hi
  have hj' : j < (Sort.sort lt l.toArray).size:=by simpa using hj
  have:=h4 i j (Nat.zero_le _) hij (by rw [← h1]; exact hj')
  simpa [hi',hj'] using this
theorem srt_unique {α : Type} [Inhabited α] {lt : α → α → Bool} (hs : Sort.SWO lt) (ht : ∀ x y,lt x y = false → lt y x = false → x = y) {l r : List α} (hp : r.Perm l) (hr : r.Pairwise (fun x y=>lt y x = false)) : (Sort.sort lt l.toArray).toList = r:=by
  obtain ⟨h1,h2⟩:=sort_list hs l
  exact List.Perm.eq_of_pairwise (le:=fun x y=>lt y x = false) (fun x y _ _ h h'=>ht x y h' h) h2 hr (h1.trans hp.symm)
/-- The first place that is not less. -/
def insK {α : Type} (lt : α → α → Bool) (s : α) : List α → Nat
  | []=>0
  | x :: r=>if lt x s = true then insK lt s r + 1 else 0
def insA {α : Type} (lt : α → α → Bool) (l : List α) (s : α) : List α:=l.take (insK lt s l) ++ s :: l.drop (insK lt s l)
theorem insK_le {α : Type} (lt : α → α → Bool) (s : α) : ∀ l,insK lt s l ≤ l.length
  | []=>Nat.le_refl _
  | x :: r=>by rw [insK]; split <;> simp [insK_le lt s r]
theorem insA_perm {α : Type} (lt : α → α → Bool) (l : List α) (s : α) : (insA lt l s).Perm (s :: l):=by
  unfold insA
  refine List.perm_middle.trans ?_
  rw [List.take_append_drop]
theorem insA_len {α : Type} (lt : α → α → Bool) (l : List α) (s : α) : (insA lt l s).length = l.length + 1:=by rw [(insA_perm lt l s).length_eq]; rfl
theorem insA_cons {α : Type} (lt : α → α → Bool) (x : α) (r : List α) (s : α) : insA lt (x :: r) s = if lt x s = true then x :: insA lt r s else s :: x :: r:=by
  unfold insA; rw [insK]
  split <;> simp
theorem insK_at {α : Type} {lt : α → α → Bool} {s : α} : ∀ {l : List α} {k : Nat} {x : α},(∀ j,j < k → ∃ y,l[j]? = some y ∧ lt y s = true) → l[k]? = some x → lt x s = false → insK lt s l = k
  | [],k,x,_,h,_=>by simp at h
  | y :: r,0,x,_,h,hx=>by
    simp only [List.getElem?_cons_zero,Option.some.injEq] at h; subst h
    rw [insK,if_neg (by rw [hx]; simp)]
  | y :: r,k + 1,x,hj,h,hx=>by
    obtain ⟨z,hz,hl⟩:=hj 0 (by omega)
    simp only [List.getElem?_cons_zero,Option.some.injEq] at hz; subst hz
    rw [insK,if_pos hl,insK_at (l:=r) (k:=k) (x:=x) (fun j h=>by simpa using hj (j + 1) (by omega)) (by simpa using h) hx]
theorem insK_end {α : Type} {lt : α → α → Bool} {s : α} : ∀ {l : List α},(∀ j,j < l.length → ∃ y,l[j]? = some y ∧ lt y s = true) → insK lt s l = l.length
  | [],_=>rfl
  | y :: r,hj=>by
    obtain ⟨z,hz,hl⟩:=hj 0 (by simp)
    simp only [List.getElem?_cons_zero,Option.some.injEq] at hz; subst hz
    rw [insK,if_pos hl,insK_end (l:=r) (fun j h=>by simpa using hj (j + 1) (by simpa using h))]; rfl
theorem getD_at {α : Type} {l : List α} {k : Nat} {x0 : α} (h : k < l.length) : l[k]? = some (l.getD k x0):=by simp [h]
end Go.Proofs.YtjbbbkfdcegfmaaGreat

/- Rings of one's own in a row of one's own. -/
namespace Go.Proofs.YtjbbbkfdcegfmaaGreat
open Go Go.RowKit

/-- The row's cells: each ring's block. -/
def nsG (f : Nat → Nat) (L : List (List Sp)) (i : Nat) : List AV:=[.osl (f i) 0 (gr L i).length]
structure Nst (H : Heap) (lo hi ix : Nat) (f : Nat → Nat) (L : List (List Sp)) : Prop where
  ixr : lo ≤ ix ∧ ix < hi
  fr : ∀ i,i < L.length → lo ≤ f i ∧ f i < hi ∧ f i ≠ ix
  inj : ∀ i j,i < L.length → j < L.length → f i = f j → i = j
  top : H ix = some (1,mkR (nsG f L) L.length)
  row : ∀ i,i < L.length → H (f i) = some (2,(gr L i).map Sp.cells)
theorem lv_sp2 (H : Heap) (k : Nat) (r : List Sp) : (r.map Sp.cells).map (List.map (lv H k)) = r.map Sp.cells:=by
  rw [List.map_map]; congr 1; funext p; cases k <;> simp [Sp.cells,lv]
theorem Nst.lv {H : Heap} {lo hi ix : Nat} {f : Nat → Nat} {L : List (List Sp)} (h : Nst H lo hi ix f L) (k : Nat) : lv H (k + 2) (.osl ix 0 L.length) = .isl (L.map fun r=>[.isl (r.map Sp.cells)]):=by
  have e1 : ∀ i,i < L.length → (nsG f L i).map (YtjbbbkfdcegfmaaGreat.lv H (k + 1)) = [.isl ((gr L i).map Sp.cells)]:=by
    intro i hi
    simp only [nsG,List.map_cons,List.map_nil,YtjbbbkfdcegfmaaGreat.lv,h.row i hi]
    rw [if_pos (by simp),List.drop_zero,List.take_of_length_le (by simp),lv_sp2]
  rw [YtjbbbkfdcegfmaaGreat.lv,h.top]
  simp only []
  rw [if_pos (by rw [mkR_len]; omega),List.drop_zero,List.take_of_length_le (by rw [mkR_len]; exact Nat.le_refl _)]
  congr 1
  unfold mkR
  rw [List.map_map]
  apply List.ext_getElem
  · simp
  · intro i h1 h2
    have hi : i < L.length:=by simpa using h2
    simp only [List.getElem_map,List.getElem_range,Function.comp_apply]
    rw [e1 i hi]
    congr 1
    have:=gr_get hi
    rw [List.getElem?_eq_getElem hi] at this
    rw [Option.some.inj this]
/-- Other blocks do not matter. -/
theorem Nst.mono {H H' : Heap} {lo hi hi' ix : Nat} {f : Nat → Nat} {L : List (List Sp)} (h : Nst H lo hi ix f L) (hh : hi ≤ hi') (he : ∀ k,lo ≤ k → k < hi → H' k = H k) : Nst H' lo hi' ix f L :=
  ⟨⟨h.ixr.1,by have:=h.ixr.2; omega⟩,fun i hi=>by have:=h.fr i hi; exact ⟨this.1,by omega,this.2.2⟩,h.inj,by rw [he ix h.ixr.1 h.ixr.2]; exact h.top,fun i hi=>by
    have:=h.fr i hi
    rw [he (f i) this.1 this.2.1]; exact h.row i hi⟩
end Go.Proofs.YtjbbbkfdcegfmaaGreat

/- The status: segments that stand over one place, from low to high. -/
namespace Go.Proofs.YtjbbbkfdcegfmaaGreat
open Go Go.RowKit

def gq (L : List Sg) (i : Nat) : Sg:=L.getD i ⟨⟨0,0⟩,⟨0,0⟩⟩
theorem gq_get {L : List Sg} {i : Nat} (h : i < L.length) : L[i]? = some (gq L i):=by simp [gq,h]
theorem gq_mem {L : List Sg} {i : Nat} (h : i < L.length) : gq L i ∈ L:=by
  have:=gq_get h
  exact List.mem_of_getElem? this
end Go.Proofs.YtjbbbkfdcegfmaaGreat

/- Hits: the points of segments, each once, in order. -/
namespace Go.Proofs.YtjbbbkfdcegfmaaGreat
open Go Go.RowKit

/-- Points that are right, in their one form. -/
abbrev GP:={p : Pt // p.ok ∧ p.good = true}
instance : Inhabited GP:=⟨⟨ptS ⟨0,0⟩,pt3_ok _ _ _,ptS_gd (by decide)⟩⟩
instance (p : Pt) : Decidable p.ok:=by unfold Pt.ok W4.ok U64; infer_instance
def toG (p : Pt) : GP:=if h : p.ok ∧ p.good = true then ⟨p,h⟩ else default
theorem toG_val {p : Pt} (h1 : p.ok) (h2 : p.good = true) : (toG p).1 = p:=by unfold toG; rw [dif_pos ⟨h1,h2⟩]
def cmH (a b : GP) : Int:=cmV a.1 b.1
def ltH : GP → GP → Bool:=ltc cmH
theorem gp_w (a : GP) : 0 < a.1.w.v:=by
  have:=a.2.2
  unfold Pt.good at this
  simp only [Bool.and_eq_true,decide_eq_true_eq] at this
  exact this.1.1
theorem cmH_anti (a b : GP) : cmH b a = -cmH a b:=cmV_anti _ _
theorem cmH_tr {a b c : GP} (h1 : cmH a c ≤ 0) (h2 : cmH c b ≤ 0) : cmH a b ≤ 0:=cmV_tr (gp_w a) (gp_w b) (gp_w c) h1 h2
theorem cmH_zero {a b : GP} (h : cmH a b = 0) : a = b:=Subtype.ext (cmV_zero a.2.1 b.2.1 a.2.2 b.2.2 h)
theorem cmH_self (a : GP) : cmH a a = 0:=by have:=cmH_anti a a; omega
theorem ltH_iff {a b : GP} : ltH a b = true ↔ cmH a b < 0:=by unfold ltH ltc; simp
theorem ltH_not {a b : GP} : ltH a b = false ↔ 0 ≤ cmH a b:=by unfold ltH ltc; simp
theorem ltH_swo : Sort.SWO ltH:=by
  refine ⟨fun x=>?_,fun x y z h1 h2=>?_,fun x y z h1 h2=>?_⟩
  · rw [ltH_not,cmH_self]; omega
  · rw [ltH_iff] at *
    have h3 : cmH x z ≤ 0:=cmH_tr (c:=y) (by omega) (by omega)
    rcases Int.lt_or_eq_of_le h3 with h | h
    · exact h
    · have:=cmH_zero h; subst this
      have:=cmH_anti x y; omega
  · rw [ltH_not] at *
    have a1:=cmH_anti x y
    have a2:=cmH_anti y z
    have a3:=cmH_anti x z
    have h3 : cmH z x ≤ 0:=cmH_tr (c:=y) (by omega) (by omega)
    omega
theorem ltH_tri {x y : GP} (h1 : ltH x y = false) (h2 : ltH y x = false) : x = y:=by
  rw [ltH_not] at *
  have:=cmH_anti x y
  exact cmH_zero (by omega)
theorem ltH_ne {x y : GP} (h : ltH x y = true) : x ≠ y:=by
  intro e; subst e; rw [ltH_swo.irrefl] at h; simp at h

/-- A point is put in its place, unless it is there. -/
def insU (l : List GP) (p : GP) : List GP:=if insK ltH p l < l.length ∧ cmH (l.getD (insK ltH p l) default) p = 0 then l else insA ltH l p
theorem insU_cons (x : GP) (r : List GP) (p : GP) : insU (x :: r) p = if ltH x p = true then x :: insU r p else if cmH x p = 0 then x :: r else p :: x :: r:=by
  unfold insU
  rw [insK,insA_cons]
  by_cases h : ltH x p = true
  · simp only [h,if_true,List.length_cons,Nat.add_lt_add_iff_right,List.getD_cons_succ]
    split <;> rfl
  · simp only [h,Bool.false_eq_true,if_false,List.getD_cons_zero,List.length_cons,Nat.zero_lt_succ,true_and]
theorem insU_mem {q p : GP} : ∀ {l : List GP},q ∈ insU l p ↔ q = p ∨ q ∈ l
  | []=>by simp [insU,insK,insA]
  | x :: r=>by
    rw [insU_cons]
    split
    · rw [List.mem_cons,insU_mem,List.mem_cons]
      constructor
      · rintro (h | h | h) <;> simp [h]
      · rintro (h | h | h) <;> simp [h]
    · split
      · rename_i h; have:=cmH_zero h; subst this
        simp
      · simp
theorem insU_srt {p : GP} : ∀ {l : List GP},l.Pairwise (fun x y=>ltH x y = true) → (insU l p).Pairwise (fun x y=>ltH x y = true)
  | [],_=>by simp [insU,insK,insA]
  | x :: r,h=>by
    have h0:=h
    rw [List.pairwise_cons] at h
    rw [insU_cons]
    split
    · rename_i hx
      rw [List.pairwise_cons]
      refine ⟨fun y hy=>?_,insU_srt h.2⟩
      rcases insU_mem.1 hy with rfl | hy
      · exact hx
      · exact h.1 y hy
    · split
      · exact h0
      · rename_i h1 h2
        have h3 : ltH p x = true:=by
          rw [ltH_iff] at *
          have:=cmH_anti x p; omega
        rw [List.pairwise_cons]
        refine ⟨fun y hy=>?_,h0⟩
        rcases List.mem_cons.1 hy with rfl | hy
        · exact h3
        · exact ltH_swo.trans _ _ _ h3 (h.1 y hy)
def insS (l : List GP) : List GP:=l.foldl insU []
theorem insS_snoc (l : List GP) (p : GP) : insS (l ++ [p]) = insU (insS l) p:=by simp [insS]
theorem insG_mem {q : GP} : ∀ {l acc : List GP},q ∈ l.foldl insU acc ↔ q ∈ acc ∨ q ∈ l
  | [],_=>by simp
  | x :: r,acc=>by
    rw [List.foldl_cons,insG_mem,insU_mem,List.mem_cons]
    constructor
    · rintro ((h | h) | h) <;> simp [h]
    · rintro (h | h | h) <;> simp [h]
theorem insS_mem {q : GP} {l : List GP} : q ∈ insS l ↔ q ∈ l:=by simp [insS,insG_mem]
theorem insG_srt : ∀ {l acc : List GP},acc.Pairwise (fun x y=>ltH x y = true) → (l.foldl insU acc).Pairwise (fun x y=>ltH x y = true)
  | [],_,h=>h
  | x :: r,acc,h=>insG_srt (l:=r) (acc:=insU acc x) (insU_srt h)
theorem insS_srt (l : List GP) : (insS l).Pairwise (fun x y=>ltH x y = true):=insG_srt List.Pairwise.nil
theorem insS_nodup (l : List GP) : (insS l).Nodup:=(insS_srt l).imp fun h=>ltH_ne h

/-- A point is set behind, unless it is there. -/
def addP (l : List GP) (p : GP) : List GP:=if p ∈ l then l else l ++ [p]
def ded (l : List GP) : List GP:=l.foldl addP []
theorem ded_snoc (l : List GP) (p : GP) : ded (l ++ [p]) = addP (ded l) p:=by simp [ded]
theorem addP_mem {l : List GP} {p q : GP} : q ∈ addP l p ↔ q ∈ l ∨ q = p:=by
  unfold addP
  split
  · rename_i h
    constructor
    · exact .inl
    · rintro (h' | rfl) <;> assumption
  · simp
theorem addP_nodup {l : List GP} {p : GP} (h : l.Nodup) : (addP l p).Nodup:=by
  unfold addP
  split
  · exact h
  · rename_i hp
    rw [List.nodup_append]
    exact ⟨h,by simp,fun a ha b hb e=>by simp at hb; subst hb; subst e; exact hp ha⟩
theorem dedG_mem {q : GP} : ∀ {l acc : List GP},q ∈ l.foldl addP acc ↔ q ∈ acc ∨ q ∈ l
  | [],_=>by simp
  | x :: r,acc=>by
    rw [List.foldl_cons,dedG_mem,addP_mem,List.mem_cons]
    constructor
    · rintro ((h | h) | h) <;> simp [h]
    · rintro (h | h | h) <;> simp [h]
theorem dedG_nodup : ∀ {l acc : List GP},acc.Nodup → (l.foldl addP acc).Nodup
  | [],_,h=>h
  | x :: r,acc,h=>dedG_nodup (l:=r) (acc:=addP acc x) (addP_nodup h)
theorem ded_mem {q : GP} {l : List GP} : q ∈ ded l ↔ q ∈ l:=by simp [ded,dedG_mem]
theorem ded_nodup (l : List GP) : (ded l).Nodup:=dedG_nodup List.nodup_nil
theorem addP_len (l : List GP) (p : GP) : l.length ≤ (addP l p).length ∧ (addP l p).length ≤ l.length + 1:=by unfold addP; split <;> simp

/-- Both ways come to the same points. -/
theorem ded_sort (l : List GP) : (Sort.sort ltH (ded l).toArray).toList = insS l:=by
  refine srt_unique ltH_swo (fun _ _=>ltH_tri) ?_ ?_
  · exact (List.perm_ext_iff_of_nodup (insS_nodup l) (ded_nodup l)).2 fun q=>by rw [insS_mem,ded_mem]
  · refine (insS_srt l).imp fun h=>?_
    rw [ltH_iff] at h
    rw [ltH_not]
    rename_i a b
    have:=cmH_anti a b; omega

/-- The points of row i: where it meets those ahead of it. -/
def rowM (L : List Sg) (i : Nat) : Nat → List GP
  | 0=>[]
  | k + 1=>rowM L i k ++ (if (meetI (gq L i) (gq L k)).1 = 1 then [toG (meetI (gq L i) (gq L k)).2.1] else [])
def seqM (L : List Sg) : Nat → List GP
  | 0=>[]
  | n + 1=>seqM L n ++ [toG (ptS (gq L n).a)] ++ [toG (ptS (gq L n).b)] ++ rowM L n n
def hitP (L : List Sg) : List GP:=insS (seqM L L.length)
def onN (L : List Sg) (p : Pt) : Nat → List Int
  | 0=>[]
  | n + 1=>onN L p n ++ (if onF (gq L n) p = true then [(n : Int)] else [])
def onL (L : List Sg) (p : Pt) : List Int:=onN L p L.length
/-- A hit, as cells. -/
def hitC (L : List Sg) (g : GP) : List AV:=g.1.cells ++ [Wd .i64 (onL L g.1)]
def hitR (L : List Sg) : List (List AV):=(hitP L).map (hitC L)
theorem onN_len (L : List Sg) (p : Pt) : ∀ n,(onN L p n).length ≤ n
  | 0=>by simp [onN]
  | n + 1=>by rw [onN,List.length_append]; have:=onN_len L p n; split <;> simp <;> omega
theorem rowM_len (L : List Sg) (i : Nat) : ∀ n,(rowM L i n).length ≤ n
  | 0=>by simp [rowM]
  | n + 1=>by rw [rowM,List.length_append]; have:=rowM_len L i n; split <;> simp <;> omega
theorem rowM_mem {L : List Sg} {i : Nat} {g : GP} : ∀ {n},g ∈ rowM L i n ↔ ∃ k,k < n ∧ (meetI (gq L i) (gq L k)).1 = 1 ∧ g = toG (meetI (gq L i) (gq L k)).2.1
  | 0=>by simp [rowM]
  | n + 1=>by
    rw [rowM,List.mem_append,rowM_mem]
    constructor
    · rintro (⟨k,h1,h2⟩ | h)
      · exact ⟨k,by omega,h2⟩
      · split at h
        · rename_i h1; simp at h; exact ⟨n,by omega,h1,h⟩
        · simp at h
    · rintro ⟨k,h1,h2,h3⟩
      rcases Nat.lt_or_ge k n with h | h
      · exact .inl ⟨k,h,h2,h3⟩
      · have : k = n:=by omega
        subst this; right; rw [if_pos h2]; simp [h3]
theorem seqM_mem {L : List Sg} {g : GP} : ∀ {n},g ∈ seqM L n ↔ ∃ i,i < n ∧ (g = toG (ptS (gq L i).a) ∨ g = toG (ptS (gq L i).b) ∨ g ∈ rowM L i i)
  | 0=>by simp [seqM]
  | n + 1=>by
    rw [seqM,List.mem_append,List.mem_append,List.mem_append,seqM_mem,List.mem_singleton,List.mem_singleton]
    constructor
    · rintro (((⟨i,h1,h2⟩ | h) | h) | h)
      · exact ⟨i,by omega,h2⟩
      · exact ⟨n,by omega,.inl h⟩
      · exact ⟨n,by omega,.inr (.inl h)⟩
      · exact ⟨n,by omega,.inr (.inr h)⟩
    · rintro ⟨i,h1,h2⟩
      rcases Nat.lt_or_ge i n with h | h
      · exact .inl (.inl (.inl ⟨i,h,h2⟩))
      · have : i = n:=by omega
        subst this
        rcases h2 with h2 | h2 | h2
        · exact .inl (.inl (.inr h2))
        · exact .inl (.inr h2)
        · exact .inr h2
theorem onN_mem {L : List Sg} {p : Pt} {z : Int} : ∀ {n : Nat},z ∈ onN L p n ↔ ∃ k : Nat,k < n ∧ z = k ∧ onF (gq L k) p = true
  | 0=>by simp [onN]
  | n + 1=>by
    rw [onN,List.mem_append,onN_mem]
    constructor
    · rintro (⟨k,h1,h2⟩ | h)
      · exact ⟨k,by omega,h2⟩
      · split at h
        · rename_i h1; simp at h; exact ⟨n,by omega,h,h1⟩
        · simp at h
    · rintro ⟨k,h1,h2,h3⟩
      rcases Nat.lt_or_ge k n with h | h
      · exact .inl ⟨k,h,h2,h3⟩
      · have : k = n:=by omega
        subst this; right; rw [if_pos h3]; simp [h2]
/-- What the map of the points has. -/
def memF (A : List GP) : GP → Option AV:=fun q=>if q ∈ A then some (.bool true) else none
theorem memF_get (A : List GP) (g : GP) : (memF A g).getD (.bool false) = .bool (decide (g ∈ A)):=by
  unfold memF; by_cases h : g ∈ A <;> simp [h]
theorem addP_in {A : List GP} {g : GP} (h : g ∈ A) : addP A g = A:=by unfold addP; rw [if_pos h]
theorem addP_new {A : List GP} {g : GP} (h : ¬ g ∈ A) : addP A g = A ++ [g]:=by unfold addP; rw [if_neg h]
def cellsG (g : GP) : List AV:=Pt.cells g.1
theorem ded_len (l : List GP) : (ded l).length ≤ l.length:=by
  have h : ∀ (l acc : List GP),(l.foldl addP acc).length ≤ acc.length + l.length:=by
    intro l
    induction l with
    | nil=>intro acc; simp
    | cons x r ih =>
      intro acc
      rw [List.foldl_cons]
      have:=ih (addP acc x)
      have h2:=(addP_len acc x).2
      simp only [List.length_cons]; omega
  simpa [ded] using h l []
theorem seqM_len (L : List Sg) : ∀ n,(seqM L n).length ≤ n * (n + 2)
  | 0=>by simp [seqM]
  | n + 1=>by
    have h1:=seqM_len L n
    have h2:=rowM_len L n n
    have e : (n + 1) * (n + 1 + 2) = n * (n + 2) + 2 * n + 3:=by grind
    simp only [seqM,List.length_append,List.length_cons,List.length_nil]
    omega
end Go.Proofs.YtjbbbkfdcegfmaaGreat

/- Hits: what the map of the points has, with one more. -/
namespace Go.Proofs.YtjbbbkfdcegfmaaGreat
open Go Go.RowKit
theorem fupd_mem (A : List GP) (g : GP) : fupd (memF A) g (.bool true) = memF (A ++ [g]):=by
  funext q
  unfold fupd memF
  by_cases h : q = g
  · subst h; simp
  · simp [h]
end Go.Proofs.YtjbbbkfdcegfmaaGreat

/- Pairs of segments: two that meet are in one hit. -/
namespace Go.Proofs.YtjbbbkfdcegfmaaGreat
open Go Go.RowKit
theorem hitP_mem {L : List Sg} {g : GP} : g ∈ hitP L ↔ g ∈ seqM L L.length:=insS_mem
theorem endA_hit {L : List Sg} {i : Nat} (h : i < L.length) : toG (ptS (gq L i).a) ∈ hitP L:=hitP_mem.2 (seqM_mem.2 ⟨i,h,.inl rfl⟩)
theorem endB_hit {L : List Sg} {i : Nat} (h : i < L.length) : toG (ptS (gq L i).b) ∈ hitP L:=hitP_mem.2 (seqM_mem.2 ⟨i,h,.inr (.inl rfl)⟩)
/-- Is a segment in the hit? -/
theorem onL_mem {L : List Sg} {p : Pt} {k : Nat} (h : k < L.length) : (k : Int) ∈ onL L p ↔ onF (gq L k) p = true:=by
  unfold onL; rw [onN_mem]
  constructor
  · rintro ⟨q,_,h2,h3⟩
    have : q = k:=by omega
    rw [← this]; exact h3
  · exact fun h1=>⟨k,h,rfl,h1⟩
end Go.Proofs.YtjbbbkfdcegfmaaGreat

/- Hits of the reference: points by numbers of any size. -/
namespace Go.Proofs.YtjbbbkfdcegfmaaGreat
open Go Go.RowKit
theorem pt3_val {x y w : Int} (h : (pt3 x y w).good = true) : (pt3 x y w).x.v = x ∧ (pt3 x y w).y.v = y ∧ (pt3 x y w).w.v = w:=by
  unfold pt3 at h ⊢
  split at h
  · rename_i hs
    rw [if_pos hs]
    unfold sm at hs
    simp only [Bool.and_eq_true,decide_eq_true_eq] at hs
    exact ⟨W4z_v (sm_fits hs.1),W4z_v (sm_fits hs.2.1),W4z_v (sm_fits hs.2.2)⟩
  · exact absurd h (by decide)
theorem bt_on {s : Sg} (h : s.good = true) (p : Pt) : btS (ptS s.a) (ptS s.b) p = onF s p:=by
  have hab : cmV (ptS s.a) (ptS s.b) ≤ 0:=by
    have:=on_b h
    unfold onF at this
    simp only [Bool.and_eq_true,decide_eq_true_eq] at this
    exact this.1
  unfold btS onF
  rw [if_neg (by omega),det_spot h]
  have e : decide (sg3 (sdZ s p) = 0) = (sdF s p == 0):=rfl
  rw [e]
/-- A point by its numbers, as cells. -/
def cellS (g : GP) : List AV:=l3C g.1.x.v g.1.y.v g.1.w.v
theorem insU_eq {A : List GP} {p : GP} {j : Nat} (h : insK ltH p A = j) (hj : j < A.length) (h0 : cmH (A.getD j default) p = 0) : insU A p = A:=by
  unfold insU; rw [h,if_pos ⟨hj,h0⟩]
theorem insU_ne {A : List GP} {p : GP} {j : Nat} (h : insK ltH p A = j) (h0 : ¬ (j < A.length ∧ cmH (A.getD j default) p = 0)) : (A.map cellS).take j ++ [cellS p] ++ (A.map cellS).drop j = (insU A p).map cellS:=by
  unfold insU; rw [h,if_neg h0]
  unfold insA; rw [h]
  rw [List.map_append,List.map_cons,← List.map_take,← List.map_drop,List.append_assoc]; rfl
theorem insU_len (A : List GP) (p : GP) : (insU A p).length ≤ A.length + 1:=by
  unfold insU; split
  · omega
  · rw [insA_len]; omega
theorem insS_len : ∀ (l : List GP),(insS l).length ≤ l.length:=by
  have h : ∀ (l acc : List GP),(l.foldl insU acc).length ≤ acc.length + l.length:=by
    intro l
    induction l with
    | nil=>intro acc; simp
    | cons x r ih =>
      intro acc
      rw [List.foldl_cons]
      have:=ih (insU acc x)
      have h2:=insU_len acc x
      simp only [List.length_cons]; omega
  intro l
  simpa [insS] using h l []
end Go.Proofs.YtjbbbkfdcegfmaaGreat

/- Rows of hits of one's own: each hit's numbers lie in a block of their own. -/
namespace Go.Proofs.YtjbbbkfdcegfmaaGreat
open Go Go.RowKit
/-- A row's cells: the point, and the numbers' block. -/
def hnR (f : Nat → Nat) (c : Nat → List AV) (z : Nat → List Int) (i : Nat) : List AV:=c i ++ [.osl (f i) 0 (z i).length]
/-- The same, as it is read. -/
def hnV (c : Nat → List AV) (z : Nat → List Int) (i : Nat) : List AV:=c i ++ [Wd .i64 (z i)]
structure HNst (H : Heap) (lo hi ix : Nat) (f : Nat → Nat) (n : Nat) (c : Nat → List AV) (z : Nat → List Int) : Prop where
  ixr : lo ≤ ix ∧ ix < hi
  fr : ∀ i,i < n → lo ≤ f i ∧ f i < hi ∧ f i ≠ ix
  inj : ∀ i j,i < n → j < n → f i = f j → i = j
  top : H ix = some (13,mkR (hnR f c z) n)
  row : ∀ i,i < n → H (f i) = some (1,wd .i64 (z i))
theorem lv_wd (H : Heap) (k : Nat) (l : List Int) : (wd .i64 l).map (List.map (lv H k)) = wd .i64 l:=by
  unfold wd; rw [List.map_map]; congr 1; funext x; simp [lv_int]
theorem lvL_int {H : Heap} {k : Nat} {cs : List AV} (h : ∀ x ∈ cs,∃ n : Int,x = .int .u64 n) : cs.map (lv H k) = cs:=by
  induction cs with
  | nil=>rfl
  | cons x r ih =>
    obtain ⟨n,rfl⟩:=h x (by simp)
    rw [List.map_cons,lv_int,ih fun y hy=>h y (by simp [hy])]
theorem HNst.lv {H : Heap} {lo hi ix n : Nat} {f : Nat → Nat} {c : Nat → List AV} {z : Nat → List Int} (h : HNst H lo hi ix f n c z) (hc : ∀ i,∀ x ∈ c i,∃ n : Int,x = .int .u64 n) (k : Nat) : lv H (k + 2) (.osl ix 0 n) = .isl (mkR (hnV c z) n):=by
  have e1 : ∀ i,i < n → (hnR f c z i).map (YtjbbbkfdcegfmaaGreat.lv H (k + 1)) = hnV c z i:=by
    intro i hi
    unfold hnR hnV
    rw [List.map_append,lvL_int (hc i),List.map_cons,List.map_nil]
    congr 1
    rw [YtjbbbkfdcegfmaaGreat.lv,h.row i hi]
    simp only []
    rw [if_pos (by rw [wd_len]; omega),List.drop_zero,List.take_of_length_le (by rw [wd_len]; exact Nat.le_refl _),lv_wd]; rfl
  rw [YtjbbbkfdcegfmaaGreat.lv,h.top]
  simp only []
  rw [if_pos (by rw [mkR_len]; omega),List.drop_zero,List.take_of_length_le (by rw [mkR_len]; exact Nat.le_refl _)]
  congr 1
  unfold mkR
  rw [List.map_map]
  exact List.map_congr_left fun i hi=>e1 i (List.mem_range.1 hi)
theorem HNst.mono {H H' : Heap} {lo hi hi' ix n : Nat} {f : Nat → Nat} {c : Nat → List AV} {z : Nat → List Int} (h : HNst H lo hi ix f n c z) (hh : hi ≤ hi') (he : ∀ k,lo ≤ k → k < hi → H' k = H k) : HNst H' lo hi' ix f n c z :=
  ⟨⟨h.ixr.1,by have:=h.ixr.2; omega⟩,fun i hi=>by have:=h.fr i hi; exact ⟨this.1,by omega,this.2.2⟩,h.inj,by rw [he ix h.ixr.1 h.ixr.2]; exact h.top,fun i hi=>by
    have:=h.fr i hi
    rw [he (f i) this.1 this.2.1]; exact h.row i hi⟩
/-- The hits' points and numbers. -/
def gpq (L : List Sg) (i : Nat) : GP:=(hitP L).getD i default
def hcZ (L : List Sg) (i : Nat) : List Int:=onL L (gpq L i).1
end Go.Proofs.YtjbbbkfdcegfmaaGreat

/- The kit's contract of slices.SortFunc at elements of some cells, as a call on a row of one's own. -/
namespace Go.Proofs.YtjbbbkfdcegfmaaGreat
open Go Go.RowKit Go.Sort

theorem below_grow {W w' : World} (h : Below W.heap.size W w') : ∃ q os,w' = grow (W.drewN q) os:=by
  refine ⟨w'.drawn - W.drawn,w'.heap.extract W.heap.size w'.heap.size,?_⟩
  obtain ⟨⟨h1,h2,h3,h4,h5⟩,h6⟩:=h
  obtain ⟨a,b,c,d,e⟩:=w'
  obtain ⟨a',b',c',d',e'⟩:=W
  simp only [grow,World.drewN] at *
  subst h1 h2 h3
  have hh : a = a' ++ a.extract a'.size a.size:=by
    apply Array.ext_getElem?
    intro k
    rcases Nat.lt_or_ge k a'.size with hk | hk
    · rw [Array.getElem?_append_left hk,h5 k hk]
    · rw [Array.getElem?_append_right hk,Array.getElem?_extract]
      by_cases hl : k < a.size
      · rw [if_pos (by omega),Nat.add_sub_cancel' hk]
      · rw [if_neg (by omega),Array.getElem?_eq_none (by omega)]
  rw [← hh,Nat.add_sub_cancel' h6]

theorem bitLen_sort (n : Nat) (h : n < 2 ^ 63) : Lib.bitLen n = bitsLen n:=by
  have aux : ∀ f n,n < 2 ^ f → Lib.bitLenAux f n = bitsLen n:=by
    intro f
    induction f with
    | zero => intro n hn; obtain rfl : n = 0 := by omega
              rfl
    | succ f ih =>
      intro n hn
      unfold Lib.bitLenAux
      by_cases h0 : n = 0
      · subst h0; rfl
      · rw [if_neg h0,ih (n / 2) (by rw [Nat.pow_succ] at hn; omega)]
        unfold bitsLen
        rw [if_neg h0]
        by_cases h1 : n / 2 = 0
        · obtain rfl : n = 1:=by omega
          rfl
        · rw [if_neg h1,Nat.log2_def n,if_pos (by omega)]; omega
  exact aux 64 n (by omega)

theorem vrl_rv {w : World} {β : Nat → Option Loc} {b : Nat → Bool} : ∀ {xs : List AV},xs.all scal1 = true → VRL w β b xs (xs.map rv)
  | [],_=>rfl
  | c :: cs,h=>by
    simp only [List.all_cons,Bool.and_eq_true] at h
    refine ⟨rv c,cs.map rv,rfl,?_,vrl_rv h.2⟩
    cases c <;> simp only [scal1,Bool.false_eq_true,false_and] at h <;> rfl
theorem vrll_is {w : World} {β : Nat → Option Loc} {b : Nat → Bool} : ∀ {es : List (List AV)} {vss : List (List Value)},(∀ e ∈ es,e.all scal1 = true) → VRLL w β b es vss → vss = es.map (·.map rv)
  | [],_,_,h=>h
  | c :: cs,_,h,⟨v,r,e,h1,h2⟩=>by
    rw [e,rvL (h c (by simp)) h1,vrll_is (fun e he=>h e (by simp [he])) h2]; rfl
theorem rv_one {x : AV} : (rv x).oneCell' = true:=by cases x <;> rfl

theorem HR.ahead {w0 w : World} {β : Nat → Option Loc} {b : Nat → Bool} {H : Heap} (h : HR w0 w β b H) (m : Nat) : HR w0 (Sort.ahead w m) β b H ∧ Mon w β b (Sort.ahead w m) β b:=by
  have hm : Mon w β b (Sort.ahead w m) β b:=⟨Nat.le_refl _,fun _ _ h=>⟨rfl,h⟩,fun _ _ h=>h,fun _ h=>h,fun _ _ _ h=>h⟩
  exact ⟨⟨⟨⟨h.below.os,h.below.tape,h.below.output,h.below.size,h.below.block⟩,Nat.le_add_right_of_le h.below.drawn⟩,fun id z es he=>by obtain ⟨l,hl,hb⟩:=h.blk id z es he; exact ⟨l,hl,hb.mon hm rfl⟩,h.dom,h.inj⟩,hm⟩

section
variable {α : Type} [Inhabited α] {cells : α → List AV} {val : α → List Value} {k : Nat}

theorem flat_at (hk : ∀ x,(val x).length = k) (d : Array α) {e j : Nat} {u : Value} (he : e < d.size) (hu : (val (gA d e))[j]? = some u) : e * k + j < d.size * k ∧ (flatK val k d)[e * k + j]! = u:=by
  have hj : j < k:=by
    have:=(List.getElem?_eq_some_iff.1 hu).1
    rwa [hk] at this
  have lt : e * k + j < d.size * k:=by
    have:=Nat.mul_le_mul_right k (show e + 1 ≤ d.size from he); rw [Nat.add_mul,Nat.one_mul] at this; omega
  refine ⟨lt,?_⟩
  rw [get_flatK _ _ _ _ lt,(blk_iff k e (e * k + j) (by omega)).1 ⟨by omega,by omega⟩,show (e * k + j) % k = j by rw [Nat.add_comm,Nat.add_mul_mod_self_right,Nat.mod_eq_of_lt hj]]
  rw [getElem!_def]
  simp only [gA] at hu
  rw [hu]

/-- The block's cells, element by element. -/
def RowV (val : α → List Value) (k : Nat) (w : World) (l : Loc) (d : Array α) : Prop :=
  l.z = k ∧ ∃ c elem,w.heap[l.g]? = some (.cells c elem (0,0)) ∧ ∀ e,e < d.size → ∀ j u,(val (gA d e))[j]? = some u → c[l.o + e * k + j]? = some u

omit [Inhabited α] in
theorem vrll_map {w : World} {β : Nat → Option Loc} {b : Nat → Bool} (hv : ∀ x,VRL w β b (cells x) (val x)) : ∀ l : List α,VRLL w β b (l.map cells) (l.map val)
  | []=>rfl
  | x :: l=>⟨_,_,rfl,hv x,vrll_map hv l⟩

/-- A world of the sort's: the row of one's own, laid anew. -/
theorem sortW_hr (hk : ∀ x,(val x).length = k) {w0 w : World} {β : Nat → Option Loc} {b : Nat → Bool} {H : Heap} (hv : ∀ x,VRL w β b (cells x) (val x)) (h : HR w0 w β b H) {n : Nat} {d : Array α} (hH : H n ≠ none) {l : Loc} (hl : β n = some l) (hB : RowV val k w l d) (m : Nat) (dk : Array α) (hd : dk.size = d.size) (os : Array Obj) :
    HR w0 (sortWorldK val k w l.g l.o m dk os) β b (hupd H n (some (k,rwA cells dk))) ∧ Mon w β b (sortWorldK val k w l.g l.o m dk os) β b:=by
  obtain ⟨h1,m1⟩:=h.ahead m
  obtain ⟨hz,c,elem,hg,hc⟩:=hB
  have hg' : (Sort.ahead w m).heap[l.g]? = some (.cells c elem (0,0)):=hg
  have e2 : putRowK val k (Sort.ahead w m) l.g l.o dk = (Sort.ahead w m).setRow l.g (putCells id l.o (flatK val k dk) c):=by
    unfold putRowK putRow
    rw [mapBlock_congr _ _ _ (fun _=>putCells id l.o (flatK val k dk) c) (fun c' e' fr' h=>by rw [hg'] at h; simp only [Option.some.injEq,Obj.cells.injEq] at h; rw [h.1])]
    unfold mapBlock World.setRow
    congr 1
  have h2:=h1.setRow (c:=putCells id l.o (flatK val k dk) c) hH hl hg' (by simp [putCells]) k (rwA cells dk) (dk.toList.map val) hz
    (vrll_map (fun x=>VRL.mon m1 _ _ (hv x)) dk.toList) (fun e vs hvs=>by
      have he : e < dk.size:=by have:=(List.getElem?_eq_some_iff.1 hvs).1; simpa using this
      obtain rfl : val (gA dk e) = vs:=by simpa [gA,he] using hvs
      refine ⟨hk _,fun j u hu=>?_⟩
      obtain ⟨lt,hf⟩:=flat_at hk dk he hu
      have hj : j < k:=by have:=(List.getElem?_eq_some_iff.1 hu).1; rwa [hk] at this
      have hin : l.o + e * k + j < c.size:=by
        have q:=hc e (by omega) j ((val (gA d e))[j]'(by rw [hk]; exact hj)) (List.getElem?_eq_getElem _)
        exact (Array.getElem?_eq_some_iff.1 q).1
      unfold putCells
      rw [Array.getElem?_mapIdx,Array.getElem?_eq_getElem hin]
      simp only [Option.map_some,size_flatK]
      rw [if_pos (by omega),show l.o + e * k + j - l.o = e * k + j by omega,hf]; rfl)
  have m2:=Mon.setRow (w:=Sort.ahead w m) (b:=b) (c:=putCells id l.o (flatK val k dk) c) hl hg' (by simp [putCells])
  rw [← e2] at h2 m2
  have hb : Below (putRowK val k (Sort.ahead w m) l.g l.o dk).heap.size (putRowK val k (Sort.ahead w m) l.g l.o dk) (grow (putRowK val k (Sort.ahead w m) l.g l.o dk) os) :=
    ⟨⟨rfl,rfl,rfl,by simp [grow],fun i hi=>by simp only [grow]; rw [Array.getElem?_append_left hi]⟩,Nat.le_refl _⟩
  exact ⟨h2.belowS hb,(m1.trans m2).trans (Mon.below h2 hb)⟩

theorem sortW_holds (hk : ∀ x,(val x).length = k) {w : World} {d : Array α} {l : Loc} (hB : RowV val k w l d) : HoldsK val k w l.g l.o d:=by
  obtain ⟨hz,c,elem,hg,hc⟩:=hB
  intro t ht
  rw [size_flatK] at ht
  have k0 : 0 < k := by rcases Nat.eq_zero_or_pos k with h | h; · subst h; simp at ht
                        · exact h
  have hi : t / k < d.size:=Nat.div_lt_of_lt_mul (by rwa [Nat.mul_comm])
  have hj : t % k < k:=Nat.mod_lt _ k0
  have hu : (val (gA d (t / k)))[t % k]? = some ((val (gA d (t / k)))[t % k]'(by rw [hk]; exact hj)):=List.getElem?_eq_getElem _
  obtain ⟨lt,hf⟩:=flat_at hk d hi hu
  have q:=hc (t / k) hi (t % k) _ hu
  rw [Nat.mul_comm,Nat.div_add_mod] at hf
  rw [Nat.add_assoc,Nat.mul_comm,Nat.div_add_mod] at q
  refine ⟨?_,by simp [World.frozen?,hg]⟩
  rw [hf]
  simp [World.cell?,hg,q]
end
end Go.Proofs.YtjbbbkfdcegfmaaGreat

/- The kit's contract of slices.SortFunc at elements of some cells, as a call on a row of one's own: the call. -/
namespace Go.Proofs.YtjbbbkfdcegfmaaGreat
open Go Go.RowKit Go.Sort

section
variable {α : Type} [Inhabited α] {cells acells : α → List AV} {val : α → List Value} {k : Nat} {P : Program} {ρ : Shelf.Ren}
theorem sortV (L : SlLaysF0.n6 P ρ) (aE : ∀ w,(isAgg (ρ.t 24)).run P w = .ok true w) (zE : ∀ w,(Go.sizeOf (ρ.t 24)).run P w = .ok k w) (hk : ∀ x,(val x).length = k) (h1 : ∀ x,∀ v ∈ val x,v.oneCell' = true)
    (cv : α → α → Int) (f : Nat) (caps : List AV) (hc : CmpF P f caps (fun x=>.agg (acells x)) cv) (hswo : SWO (ltc cv)) (d : Array α) (HP : Heap) (nx : Nat) {w0 w : World} {β : Nat → Option Loc} (h : HR w0 w β (bornB nx) HP)
    (hv : ∀ x,VRL w β (bornB nx) (cells x) (val x)) (hac : ∀ x W b,VRL W β b (cells x) (val x) → VRL W β b (acells x) (val x)) {n : Nat} (hH : HP n ≠ none) {l : Loc} (hl : β n = some l) (hB : RowV val k w l d) (hsz : d.size ≤ 1099511627776) (cap : Nat) (cb : Array Value) (hcb : VRL w β (bornB nx) caps cb.toList) :
    Calls P (ρ.f 6) #[.slice (some ⟨l.g,l.o,none⟩) d.size cap,.func (.func f) #[] cb] w fun e w'=>e = .returned (.tuple #[]) ∧ HR w0 w' β (bornB nx) (hupd HP n (some (k,rwA cells (Sort.sort (ltc cv) d)))) ∧ Mon w β (bornB nx) w' β (bornB nx):=by
  have eg : ∀ args w,(callFunc f args).run P w = .ok (.enter f args) w:=hasBody_run hc.1
  have hcmp : CmpLays P f cb val k cv l.g l.o d.size w:=by
    intro m os dk hdk x y
    obtain ⟨hr,hm⟩:=sortW_hr hk hv h hH hl hB m dk hdk os
    have q:=hc.2 x y (sortWorldK val k w l.g l.o m dk os) β (bornB nx) nx (#[Value.agg (val x).toArray,.agg (val y).toArray] ++ cb).toList
      (fun i l' hi=>⟨(hr.dom i l' hi).2.1,by have:=(hr.dom i l' hi).2.2; simpa [bornB] using this⟩) hr.inj
      (by rw [Array.toList_append]; exact ⟨_,_,rfl,⟨_,rfl,hac x _ _ (VRL.mon hm _ _ (hv x))⟩,_,_,rfl,⟨_,rfl,hac y _ _ (VRL.mon hm _ _ (hv y))⟩,VRL.mon hm _ _ hcb⟩)
    rw [Array.toArray_toList] at q
    refine q.mono ?_
    rintro e w' ⟨v,rfl,hv,hb⟩
    have : v = .int .i64 (cv x y):=hv (bornB nx)
    exact ⟨by rw [this],below_grow hb⟩
  have h:=AnyQ.slices_SortFunc_eq L k aE zE val hk h1 cv hswo f cb l.g l.o cap d w eg hcmp (sortW_holds hk hB) (h.dom n l hl).2.1 (by omega)
  refine h.mono ?_
  rintro e w' ⟨rfl,m,os,rfl⟩
  have hs : (pdq (ltOf cv) d 0 d.size (Lib.bitLen d.size) true true) = Sort.sort (ltc cv) d:=by rw [bitLen_sort _ (by omega)]; rfl
  rw [hs]
  exact ⟨rfl,sortW_hr hk hv ‹_› hH hl hB m _ (Sort.sort_sorts _ hswo d).1.1 os⟩

/-- Elements of plain cells. -/
theorem sortK_ac (L : SlLaysF0.n6 P ρ) (aE : ∀ w,(isAgg (ρ.t 24)).run P w = .ok true w) (zE : ∀ w,(Go.sizeOf (ρ.t 24)).run P w = .ok k w) (hk : ∀ x,(cells x).length = k) (hs : ∀ x,(cells x).all scal1 = true)
    (cv : α → α → Int) (f : Nat) (caps : List AV) (hc : CmpF P f caps (fun x=>.agg (cells x)) cv) (hswo : SWO (ltc cv)) (d : Array α) (n id : Nat) (HP : Heap) (nx : Nat) (hn : d.size = n) (hH : HP id = some (k,rwA cells d)) (hl : n ≤ 1099511627776) :
    ACall P (ρ.f 6) [.osl id 0 n,.fn f caps] HP nx (fun r H' nx'=>r = .tup [] ∧ H' = hupd HP id (some (k,rwA cells (Sort.sort (ltc cv) d))) ∧ nx ≤ nx'):=by
  intro w0 w β vs h1 h2
  obtain ⟨v1,r1,rfl,hv1,v2,r2,rfl,hv2,rfl⟩:=h2
  obtain ⟨cb,rfl,hcb⟩:=hv2
  obtain ⟨l,hl1,hz,c,elem,hg,vss,hvs,hcs⟩:=h1.blk id k _ hH
  obtain ⟨a,cap,rfl,hcap,hor⟩:=hv1.2.2 l hl1
  by_cases h0 : n = 0
  · subst h0
    refine (AnyF.slices_SortFunc_none { L with } a cap (.func (.func f) #[] cb) w).mono ?_
    rintro e w' ⟨rfl,rfl⟩
    have hd : d = #[]:=Array.eq_empty_of_size_eq_zero hn
    have hp : hupd HP id (some (k,rwA cells (Sort.sort (ltc cv) d))) = HP:=by
      funext i
      unfold hupd
      split
      · rename_i he; subst he; rw [hH,Array.eq_empty_of_size_eq_zero ((Sort.sort_sorts _ hswo d).1.1.trans hn),hd]
      · rfl
    exact ⟨_,.tup [],HP,nx,β,rfl,⟨rfl,hp.symm,Nat.le_refl _⟩,h1,⟨#[],rfl,rfl⟩,Mon.refl _ _ _,KeepF.refl _ _⟩
  · obtain rfl : a = some ⟨l.g,l.o,none⟩:=by
      rcases hor with h | ⟨h,_⟩
      · omega
      · rwa [Nat.zero_mul,Nat.add_zero] at h
    subst hn
    obtain rfl:=vrll_is (fun e he=>by simp only [rwA,List.mem_map] at he; obtain ⟨x,_,rfl⟩:=he; exact hs x) hvs
    have hB : RowV (fun x=>(cells x).map rv) k w l d:=⟨hz,c,elem,hg,fun e he j u hu=>(hcs e _ (by rw [List.getElem?_map,rwA_get he]; rfl)).2 j u hu⟩
    refine (sortV (acells:=cells) L aE zE (fun x=>by simp [hk]) (fun x v hv=>by simp only [List.mem_map] at hv; obtain ⟨u,_,rfl⟩:=hv; exact rv_one) cv f caps hc hswo d HP nx h1 (fun x=>vrl_rv (hs x)) (fun _ _ _ h=>h) (by rw [hH]; simp) hl1 hB hl cap cb hcb).mono ?_
    rintro e w' ⟨rfl,hr,hm⟩
    exact ⟨_,.tup [],_,nx,β,rfl,⟨rfl,rfl,Nat.le_refl _⟩,hr,⟨#[],rfl,rfl⟩,hm,KeepF.refl _ _⟩
end

section
variable {α : Type} {cells : α → List AV} {acells : α → List Value → List AV} {k : Nat} {P : Program} {ρ : Shelf.Ren}
theorem pair_up {w : World} {β : Nat → Option Loc} {b : Nat → Bool} : ∀ (l : List α) (vss : List (List Value)),VRLL w β b (l.map cells) vss → ∃ L : List {p : α × List Value // VRL w β b (cells p.1) p.2},L.map (·.1.1) = l ∧ L.map (·.1.2) = vss
  | [],_,h=>⟨[],rfl,h.symm⟩
  | x :: l,_,⟨v,r,e,h1,h2⟩=>by
    obtain ⟨L,e1,e2⟩:=pair_up l r h2
    exact ⟨⟨(x,v),h1⟩ :: L,by simp [e1],by simp [e2,e]⟩

/-- Elements of whatever cells: what a comparison sees of them is plain. -/
theorem sortN_ac (L : SlLaysF0.n6 P ρ) (aE : ∀ w,(isAgg (ρ.t 24)).run P w = .ok true w) (zE : ∀ w,(Go.sizeOf (ρ.t 24)).run P w = .ok k w) (hk : ∀ x,(cells x).length = k)
    (hone : ∀ x w β b vs,VRL w β b (cells x) vs → ∀ v ∈ vs,v.oneCell' = true) (hac : ∀ x w β b vs,VRL w β b (cells x) vs → VRL w β b (acells x vs) vs)
    (cv : α → α → Int) (f : Nat) (caps : List AV) (hcb : hasBody P f = true) (hc : ∀ x y us vs,(∃ w β b,VRL w β b (cells x) us) → (∃ w β b,VRL w β b (cells y) vs) → FC P f (.agg (acells x us) :: .agg (acells y vs) :: caps) (.int .i64 (cv x y))) (hswo : SWO (ltc cv)) (d : List α) (n id : Nat) (HP : Heap) (nx : Nat) (hn : d.length = n) (hH : HP id = some (k,d.map cells)) (hl : n ≤ 1099511627776) :
    ACall P (ρ.f 6) [.osl id 0 n,.fn f caps] HP nx (fun r H' nx'=>r = .tup [] ∧ nx ≤ nx' ∧ ∃ d' : List α,d'.Perm d ∧ d'.Pairwise (fun x y=>ltc cv y x = false) ∧ H' = hupd HP id (some (k,d'.map cells))):=by
  intro w0 w β vs h1 h2
  obtain ⟨v1,r1,rfl,hv1,v2,r2,rfl,hv2,rfl⟩:=h2
  obtain ⟨cb,rfl,hcp⟩:=hv2
  obtain ⟨l,hl1,hz,c,elem,hg,vss,hvs,hcs⟩:=h1.blk id k _ hH
  obtain ⟨a,cap,rfl,hcap,hor⟩:=hv1.2.2 l hl1
  by_cases h0 : n = 0
  · subst h0
    refine (AnyF.slices_SortFunc_none { L with } a cap (.func (.func f) #[] cb) w).mono ?_
    rintro e w' ⟨rfl,rfl⟩
    obtain rfl : d = []:=List.length_eq_zero_iff.1 hn
    have hp : hupd HP id (some (k,([] : List α).map cells)) = HP:=by
      funext i
      unfold hupd
      split
      · rename_i he; subst he; exact hH.symm
      · rfl
    exact ⟨_,.tup [],HP,nx,β,rfl,⟨rfl,Nat.le_refl _,[],.refl _,.nil,hp.symm⟩,h1,⟨#[],rfl,rfl⟩,Mon.refl _ _ _,KeepF.refl _ _⟩
  · obtain rfl : a = some ⟨l.g,l.o,none⟩:=by
      rcases hor with h | ⟨h,_⟩
      · omega
      · rwa [Nat.zero_mul,Nat.add_zero] at h
    obtain ⟨D,rfl,rfl⟩:=pair_up d vss hvs
    obtain ⟨x0,D',rfl⟩ : ∃ x D',D = x :: D':=by cases D with | nil=>simp at hn; omega | cons x D'=>exact ⟨x,D',rfl⟩
    have : Inhabited {p : α × List Value // VRL w β (bornB nx) (cells p.1) p.2}:=⟨x0⟩
    generalize hD : x0 :: D' = D at *
    have hB : RowV (fun p : {p : α × List Value // VRL w β (bornB nx) (cells p.1) p.2}=>p.1.2) k w l D.toArray:=⟨hz,c,elem,hg,fun e he j u hu=>(hcs e _ (by
      have he' : e < D.length:=by simpa using he
      simp [gA,he'])).2 j u hu⟩
    have hsw : SWO (ltc fun p q : {p : α × List Value // VRL w β (bornB nx) (cells p.1) p.2}=>cv p.1.1 q.1.1):=⟨fun x=>hswo.irrefl x.1.1,fun x y z=>hswo.trans x.1.1 y.1.1 z.1.1,fun x y z=>hswo.ntrans x.1.1 y.1.1 z.1.1⟩
    have hsz : D.toArray.size = n:=by simpa using hn
    have q:=sortV (cells:=fun p=>cells p.1.1) (val:=fun p=>p.1.2) (acells:=fun p=>acells p.1.1 p.1.2) L aE zE (fun x=>(VRL.length _ _ x.2).trans (hk _)) (fun x=>hone _ _ _ _ _ x.2) _ f caps ⟨hcb,fun x y=>hc x.1.1 y.1.1 x.1.2 y.1.2 ⟨_,_,_,x.2⟩ ⟨_,_,_,y.2⟩⟩ hsw D.toArray HP nx h1 (fun x=>x.2) (fun x _ _ h=>hac _ _ _ _ _ h) (by rw [hH]; simp) hl1 hB (by omega) cap cb hcp
    rw [hsz] at q
    refine q.mono ?_
    rintro e w' ⟨rfl,hr,hm⟩
    obtain ⟨s1,s2⟩:=sort_list hsw D
    refine ⟨_,.tup [],_,nx,β,rfl,⟨rfl,Nat.le_refl _,(Sort.sort (ltc fun p q : {p : α × List Value // VRL w β (bornB nx) (cells p.1) p.2}=>cv p.1.1 q.1.1) D.toArray).toList.map (·.1.1),s1.map _,List.Pairwise.map (fun p : {p : α × List Value // VRL w β (bornB nx) (cells p.1) p.2}=>p.1.1) (fun _ _ h=>h) s2,?_⟩,hr,⟨#[],rfl,rfl⟩,hm,KeepF.refl _ _⟩
    rw [rwA,List.map_map]; rfl
end
end Go.Proofs.YtjbbbkfdcegfmaaGreat

/- Edges between the points of right segments, as they are gathered: point by point, and segment by segment. -/
namespace Go.Proofs.YtjbbbkfdcegfmaaGreat
open Go Go.RowKit

/-- An edge: between which points, and of which segments. -/
abbrev Ek:=Int × Int
abbrev Ed:=Ek × List Int
def klt (a b : Ek) : Bool:=decide (a.1 < b.1) || (decide (a.1 = b.1) && decide (a.2 < b.2))
theorem klt_iff {a b : Ek} : klt a b = true ↔ a.1 < b.1 ∨ a.1 = b.1 ∧ a.2 < b.2:=by simp [klt]
theorem klt_not {a b : Ek} : klt a b = false ↔ ¬ (a.1 < b.1 ∨ a.1 = b.1 ∧ a.2 < b.2):=by rw [← klt_iff]; simp
theorem klt_irr (a : Ek) : klt a a = false:=klt_not.2 (by omega)
theorem klt_tr {a b c : Ek} (h1 : klt a b = true) (h2 : klt b c = true) : klt a c = true:=by rw [klt_iff] at *; omega
theorem klt_tri {a b : Ek} (h1 : klt a b = false) (h2 : klt b a = false) : a = b:=by
  rw [klt_not] at *
  exact Prod.ext (by omega) (by omega)

/-- Of which segments an edge is, by what was told. -/
def sgO (A : List (Ek × Int)) (k : Ek) : List Int:=(A.filter fun x=>decide (x.1 = k)).map (·.2)
theorem sgO_app (A B : List (Ek × Int)) (k : Ek) : sgO (A ++ B) k = sgO A k ++ sgO B k:=by simp [sgO]
theorem sgO_one (x k : Ek) (n : Int) : sgO [(x,n)] k = if x = k then [n] else []:=by
  unfold sgO
  by_cases h : x = k <;> simp [h]
theorem sgO_nil {A : List (Ek × Int)} {k : Ek} (h : ¬ k ∈ A.map (·.1)) : sgO A k = []:=by
  unfold sgO
  rw [List.map_eq_nil_iff,List.filter_eq_nil_iff]
  intro x hx
  simp only [decide_eq_true_eq]
  rintro rfl
  exact h (List.mem_map_of_mem hx)
theorem sgO_mem {A : List (Ek × Int)} {k : Ek} : k ∈ A.map (·.1) ↔ sgO A k ≠ []:=by
  constructor
  · intro h
    obtain ⟨x,hx,rfl⟩:=List.mem_map.1 h
    intro he
    unfold sgO at he
    rw [List.map_eq_nil_iff,List.filter_eq_nil_iff] at he
    exact he x hx (by simp)
  · intro h
    exact Classical.byContradiction fun hn=>h (sgO_nil hn)

/-- What a row of edges says of what was told. -/
structure EdR (E : List Ed) (A : List (Ek × Int)) : Prop where
  seg : ∀ e ∈ E,e.2 = sgO A e.1
  key : ∀ k,k ∈ E.map (·.1) ↔ k ∈ A.map (·.1)

/-- One more, as it comes. -/
def addE (E : List Ed) (k : Ek) (n : Int) : List Ed:=if k ∈ E.map (·.1) then E.map (fun e=>if e.1 = k then (e.1,e.2 ++ [n]) else e) else E ++ [(k,[n])]
theorem addE_key (E : List Ed) (k : Ek) (n : Int) : (addE E k n).map (·.1) = if k ∈ E.map (·.1) then E.map (·.1) else E.map (·.1) ++ [k]:=by
  unfold addE
  split
  · rw [List.map_map]
    apply List.map_congr_left
    intro e _
    simp only [Function.comp]
    split <;> rfl
  · simp
theorem addE_R {E : List Ed} {A : List (Ek × Int)} (h : EdR E A) (k : Ek) (n : Int) : EdR (addE E k n) (A ++ [(k,n)]):=by
  refine ⟨fun e he=>?_,fun q=>?_⟩
  · rw [sgO_app,sgO_one]
    unfold addE at he
    split at he
    · obtain ⟨e',he',rfl⟩:=List.mem_map.1 he
      by_cases hk : e'.1 = k
      · simp only [hk,if_true]
        rw [h.seg e' he',hk]
      · simp only [hk,if_false]
        rw [if_neg (fun e=>hk e.symm),List.append_nil]
        exact h.seg e' he'
    · rename_i hk
      rcases List.mem_append.1 he with he | he
      · rw [if_neg (fun ek=>hk (by rw [ek]; exact List.mem_map_of_mem he)),List.append_nil]
        exact h.seg e he
      · rw [List.mem_singleton] at he
        subst he
        simp only [if_true]
        rw [sgO_nil (fun hm=>hk ((h.key k).2 hm))]; rfl
  · rw [addE_key]
    have hq:=h.key q
    have hk:=h.key k
    split
    · rename_i hm
      rw [List.map_append,List.mem_append,hq]
      simp only [List.map_cons,List.map_nil,List.mem_singleton]
      constructor
      · exact .inl
      · rintro (h | rfl)
        · exact h
        · exact hk.1 hm
    · rw [List.map_append,List.mem_append,List.mem_append,hq]
      simp
theorem addE_nodup {E : List Ed} (h : (E.map (·.1)).Nodup) (k : Ek) (n : Int) : ((addE E k n).map (·.1)).Nodup:=by
  rw [addE_key]
  split
  · exact h
  · rename_i hk
    exact List.nodup_append.2 ⟨h,by simp,fun a ha b hb e=>by rw [List.mem_singleton] at hb; subst hb; subst e; exact hk ha⟩
def gatF (A : List (Ek × Int)) : List Ed:=A.foldl (fun E x=>addE E x.1 x.2) []
theorem gatF_snoc (A : List (Ek × Int)) (k : Ek) (n : Int) : gatF (A ++ [(k,n)]) = addE (gatF A) k n:=by simp [gatF]

/-- One more, in order. -/
def insE : List Ed → Ek → Int → List Ed
  | [],k,n=>[(k,[n])]
  | e :: r,k,n=>if klt e.1 k = true then e :: insE r k n else if e.1 = k then (e.1,e.2 ++ [n]) :: r else (k,[n]) :: e :: r
def insF (A : List (Ek × Int)) : List Ed:=A.foldl (fun E x=>insE E x.1 x.2) []
theorem insF_snoc (A : List (Ek × Int)) (k : Ek) (n : Int) : insF (A ++ [(k,n)]) = insE (insF A) k n:=by simp [insF]
abbrev kS (E : List Ed) : Prop:=E.Pairwise fun a b=>klt a.1 b.1 = true
theorem insE_mem {k : Ek} {n : Int} {q : Ek} : ∀ {E : List Ed},q ∈ (insE E k n).map (·.1) ↔ q = k ∨ q ∈ E.map (·.1)
  | []=>by simp [insE]
  | e :: r=>by
    unfold insE
    split
    · rw [List.map_cons,List.mem_cons,insE_mem (E:=r),List.map_cons,List.mem_cons]
      exact ⟨fun h=>by rcases h with h | h | h <;> simp [h],fun h=>by rcases h with h | h | h <;> simp [h]⟩
    · split
      · rename_i h
        simp only [List.map_cons,List.mem_cons]
        rw [h]
        exact ⟨.inr,fun h=>by rcases h with h | h | h <;> simp [h]⟩
      · simp
theorem insE_S {k : Ek} {n : Int} : ∀ {E : List Ed},kS E → kS (insE E k n)
  | [],_=>by simp [insE,kS]
  | e :: r,h=>by
    obtain ⟨h1,h2⟩:=List.pairwise_cons.1 h
    unfold insE
    split
    · rename_i hk
      refine List.pairwise_cons.2 ⟨fun x hx=>?_,insE_S h2⟩
      rcases (insE_mem (q:=x.1)).1 (List.mem_map_of_mem hx) with he | he
      · rw [he]; exact hk
      · obtain ⟨y,hy,hyx⟩:=List.mem_map.1 he
        have:=h1 y hy
        rwa [hyx] at this
    · rename_i hk
      split
      · exact List.pairwise_cons.2 ⟨h1,h2⟩
      · rename_i hne
        have hlt : klt k e.1 = true:=Classical.byContradiction fun hc=>hne (klt_tri (by simpa using hk) (by simpa using hc))
        refine List.pairwise_cons.2 ⟨fun x hx=>?_,h⟩
        rcases List.mem_cons.1 hx with rfl | hx
        · exact hlt
        · exact klt_tr hlt (h1 x hx)
theorem insE_seg {A : List (Ek × Int)} {k : Ek} {n : Int} : ∀ {E : List Ed},kS E → (∀ e ∈ E,e.2 = sgO A e.1) → (¬ k ∈ E.map (·.1) → sgO A k = []) → ∀ e ∈ insE E k n,e.2 = sgO (A ++ [(k,n)]) e.1
  | [],_,_,h3,e,he=>by
    simp only [insE,List.mem_singleton] at he
    subst he
    simp [sgO_app,sgO_one,h3]
  | e0 :: r,h1,h2,h3,e,he=>by
    obtain ⟨p1,p2⟩:=List.pairwise_cons.1 h1
    have keep : ∀ x ∈ e0 :: r,x.1 ≠ k → x.2 = sgO (A ++ [(k,n)]) x.1:=fun x hx hne=>by
      rw [sgO_app,sgO_one,if_neg (fun e=>hne e.symm),List.append_nil]; exact h2 x hx
    unfold insE at he
    split at he
    · rename_i hk
      have hne : e0.1 ≠ k:=fun e=>by rw [e,klt_irr] at hk; simp at hk
      rcases List.mem_cons.1 he with rfl | he
      · exact keep _ (by simp) hne
      · exact insE_seg p2 (fun x hx=>h2 x (by simp [hx])) (fun hm=>h3 (by simp only [List.map_cons,List.mem_cons,not_or]; exact ⟨fun e=>hne e.symm,hm⟩)) e he
    · rename_i hk
      split at he
      · rename_i hkk
        rcases List.mem_cons.1 he with rfl | he
        · simp only []
          rw [sgO_app,sgO_one,if_pos hkk.symm,h2 e0 (by simp)]
        · have:=p1 e he
          refine keep e (by simp [he]) fun e'=>?_
          rw [e',hkk,klt_irr] at this; simp at this
      · rename_i hne
        have hlt : klt k e0.1 = true:=Classical.byContradiction fun hc=>hne (klt_tri (by simpa using hk) (by simpa using hc))
        have hnk : ∀ x ∈ e0 :: r,x.1 ≠ k:=fun x hx e'=>by
          rcases List.mem_cons.1 hx with rfl | hx
          · exact hne e'
          · have:=klt_tr hlt (p1 x hx)
            rw [e',klt_irr] at this; simp at this
        rcases List.mem_cons.1 he with rfl | he
        · simp only []
          rw [sgO_app,sgO_one,if_pos rfl,h3 (fun hm=>by obtain ⟨x,hx,hxk⟩:=List.mem_map.1 hm; exact hnk x hx hxk)]; rfl
        · exact keep e he (hnk e he)
theorem insE_R {E : List Ed} {A : List (Ek × Int)} (hs : kS E) (h : EdR E A) (k : Ek) (n : Int) : EdR (insE E k n) (A ++ [(k,n)]) :=
  ⟨insE_seg hs h.seg fun hm=>sgO_nil fun hk=>hm ((h.key k).2 hk),fun q=>by
    rw [insE_mem,List.map_append,List.mem_append,h.key q]
    simp only [List.map_cons,List.map_nil,List.mem_singleton]
    exact Or.comm⟩

theorem insF_ok (A : List (Ek × Int)) : kS (insF A) ∧ EdR (insF A) A:=by
  have : ∀ (B A : List (Ek × Int)) (E : List Ed),kS E → EdR E A → kS (B.foldl (fun E x=>insE E x.1 x.2) E) ∧ EdR (B.foldl (fun E x=>insE E x.1 x.2) E) (A ++ B):=by
    intro B
    induction B with
    | nil=>intro A E h1 h2; simpa using ⟨h1,h2⟩
    | cons x B ih =>
      intro A E h1 h2
      have:=ih (A ++ [x]) (insE E x.1 x.2) (insE_S h1) (insE_R h1 h2 x.1 x.2)
      rwa [List.append_assoc] at this
  exact this A [] [] .nil ⟨by simp,by simp⟩
theorem gatF_ok (A : List (Ek × Int)) : ((gatF A).map (·.1)).Nodup ∧ EdR (gatF A) A:=by
  have : ∀ (B A : List (Ek × Int)) (E : List Ed),(E.map (·.1)).Nodup → EdR E A → ((B.foldl (fun E x=>addE E x.1 x.2) E).map (·.1)).Nodup ∧ EdR (B.foldl (fun E x=>addE E x.1 x.2) E) (A ++ B):=by
    intro B
    induction B with
    | nil=>intro A E h1 h2; simpa using ⟨h1,h2⟩
    | cons x B ih =>
      intro A E h1 h2
      have:=ih (A ++ [x]) (addE E x.1 x.2) (addE_nodup h1 x.1 x.2) (addE_R h2 x.1 x.2)
      rwa [List.append_assoc] at this
  exact this A [] [] (by simp) ⟨by simp,by simp⟩

/-- Two rows in order that say the same are one. -/
theorem ed_unique : ∀ {E F : List Ed},kS E → kS F → (∀ e,e ∈ E ↔ e ∈ F) → E = F
  | [],[],_,_,_=>rfl
  | [],f :: F,_,_,h=>absurd ((h f).2 (by simp)) (by simp)
  | e :: E,[],_,_,h=>absurd ((h e).1 (by simp)) (by simp)
  | e :: E,f :: F,h1,h2,h=>by
    obtain ⟨p1,p2⟩:=List.pairwise_cons.1 h1
    obtain ⟨q1,q2⟩:=List.pairwise_cons.1 h2
    have irr : ∀ {a b : Ed},klt a.1 b.1 = true → klt b.1 a.1 = true → False:=fun h1 h2=>by have:=klt_tr h1 h2; rw [klt_irr] at this; simp at this
    have hef : e = f:=by
      rcases List.mem_cons.1 ((h e).1 (by simp)) with h1 | h1
      · exact h1
      · rcases List.mem_cons.1 ((h f).2 (by simp)) with h2 | h2
        · exact h2.symm
        · exact (irr (q1 e h1) (p1 f h2)).elim
    subst hef
    congr 1
    refine ed_unique p2 q2 fun x=>⟨fun hx=>?_,fun hx=>?_⟩
    · rcases List.mem_cons.1 ((h x).1 (by simp [hx])) with rfl | h'
      · exact (irr (p1 x hx) (p1 x hx)).elim
      · exact h'
    · rcases List.mem_cons.1 ((h x).2 (by simp [hx])) with rfl | h'
      · exact (irr (q1 x hx) (q1 x hx)).elim
      · exact h'

/-- What was gathered as it came, sorted, is what was gathered in order. -/
theorem ed_same {A B : List (Ek × Int)} (hs : ∀ k,sgO A k = sgO B k) {E : List Ed} (hp : E.Perm (gatF A)) (ho : E.Pairwise fun a b=>klt b.1 a.1 = false) : E = insF B:=by
  obtain ⟨a1,a2⟩:=gatF_ok A
  obtain ⟨b1,b2⟩:=insF_ok B
  have hk : ∀ k,k ∈ A.map (·.1) ↔ k ∈ B.map (·.1):=fun k=>by rw [sgO_mem,sgO_mem,hs]
  have hn : (E.map (·.1)).Nodup:=(hp.map _).nodup_iff.2 a1
  have hE : kS E:=by
    have:=List.pairwise_map.1 hn
    exact (ho.and this).imp fun {a b} h=>Classical.byContradiction fun hc=>h.2 (klt_tri (by simpa using hc) h.1)
  have iff : ∀ {E : List Ed} {A : List (Ek × Int)},EdR E A → ∀ e,e ∈ E ↔ e.1 ∈ A.map (·.1) ∧ e.2 = sgO A e.1:=fun {E A} h e=>⟨fun he=>⟨(h.key _).1 (List.mem_map_of_mem he),h.seg e he⟩,fun ⟨h1,h2⟩=>by
    obtain ⟨x,hx,hxe⟩:=List.mem_map.1 ((h.key _).2 h1)
    have : x = e:=Prod.ext hxe (by rw [h.seg x hx,h2,hxe])
    exact this ▸ hx⟩
  refine ed_unique hE b1 fun e=>?_
  rw [hp.mem_iff,iff a2,iff b2,hk,hs]
end Go.Proofs.YtjbbbkfdcegfmaaGreat

/- Edges: what the points tell and what the segments tell is the same. -/
namespace Go.Proofs.YtjbbbkfdcegfmaaGreat
open Go Go.RowKit

/-- Does point v lie on segment n. -/
def onG (L : List Sg) (n v : Nat) : Bool:=onF (gq L n) (gpq L v).1
/-- The last point ahead of v on segment n. -/
def lastN (L : List Sg) (n : Nat) : Nat → Int
  | 0=>-1
  | v + 1=>if onG L n v = true then (v : Int) else lastN L n v
theorem lastN_b (L : List Sg) (n : Nat) : ∀ v,-1 ≤ lastN L n v ∧ lastN L n v < v
  | 0=>by simp [lastN]
  | v + 1=>by
    have:=lastN_b L n v
    unfold lastN
    split <;> omega
/-- What point v tells, of these segments. -/
def rowA (L : List Sg) (v : Nat) (l : List Int) : List (Ek × Int):=l.filterMap fun n=>if 0 ≤ lastN L n.toNat v then some ((lastN L n.toNat v,(v : Int)),n) else none
theorem rowA_app (L : List Sg) (v : Nat) (a b : List Int) : rowA L v (a ++ b) = rowA L v a ++ rowA L v b:=List.filterMap_append
def evA (L : List Sg) : Nat → List (Ek × Int)
  | 0=>[]
  | v + 1=>evA L v ++ rowA L v (hcZ L v)
/-- What segment i tells, of the points ahead of k. -/
def evP (L : List Sg) (i : Nat) : Nat → List Ek
  | 0=>[]
  | k + 1=>evP L i k ++ if onG L i k = true ∧ 0 ≤ lastN L i k then [(lastN L i k,(k : Int))] else []
def evB (L : List Sg) (m : Nat) : Nat → List (Ek × Int)
  | 0=>[]
  | i + 1=>evB L m i ++ (evP L i m).map fun p=>(p,(i : Int))

/-- Is (a, b) an edge of segment i. -/
def isC (L : List Sg) (m : Nat) (k : Ek) (i : Nat) : Bool:=decide (0 ≤ k.1) && decide (0 ≤ k.2) && decide (k.2.toNat < m) && onG L i k.2.toNat && decide (lastN L i k.2.toNat = k.1)
theorem sgO_evP (L : List Sg) (i : Nat) (k : Ek) : ∀ m,sgO ((evP L i m).map fun p=>(p,(i : Int))) k = if isC L m k i = true then [(i : Int)] else []
  | 0=>by simp [evP,sgO,isC]
  | m + 1=>by
    obtain ⟨a,b⟩:=k
    unfold evP
    rw [List.map_append,sgO_app,sgO_evP L i (a,b) m]
    have hb:=lastN_b L i m
    by_cases hm : b = m
    · subst hm
      have e1 : isC L m (a,(m : Int)) i = false:=by simp [isC]
      rw [e1]
      by_cases h : onG L i m = true ∧ 0 ≤ lastN L i m
      · rw [if_pos h,List.map_cons,List.map_nil,sgO_one]
        by_cases ha : lastN L i m = a
        · subst ha
          rw [if_pos rfl]
          simp [isC,h.1,h.2]
        · rw [if_neg (by simp [ha])]
          simp [isC,ha]
      · rw [if_neg h]
        simp only [isC,List.map_nil,sgO]
        by_cases h1 : onG L i m = true
        · have h2 : ¬ 0 ≤ lastN L i m:=fun h2=>h ⟨h1,h2⟩
          by_cases ha : lastN L i m = a
          · subst ha; simp [h2]
          · simp [ha]
        · simp [h1]
    · have e2 : sgO ((if onG L i m = true ∧ 0 ≤ lastN L i m then [(lastN L i m,(m : Int))] else []).map fun p=>(p,(i : Int))) (a,b) = []:=by
        split
        · rw [List.map_cons,List.map_nil,sgO_one,if_neg (by simp; omega)]
        · rfl
      rw [e2,List.append_nil]
      have e3 : isC L (m + 1) (a,b) i = isC L m (a,b) i:=by
        unfold isC
        simp only []
        by_cases h0 : 0 ≤ b
        · rw [show decide (b.toNat < m + 1) = decide (b.toNat < m) from decide_eq_decide.2 (by omega)]
        · simp [h0]
      rw [e3]
def flC (L : List Sg) (m : Nat) (k : Ek) : Nat → List Int
  | 0=>[]
  | i + 1=>flC L m k i ++ if isC L m k i = true then [(i : Int)] else []
theorem sgO_B (L : List Sg) (m : Nat) (k : Ek) : ∀ i,sgO (evB L m i) k = flC L m k i
  | 0=>rfl
  | i + 1=>by unfold evB flC; rw [sgO_app,sgO_B L m k i,sgO_evP]

theorem sgO_rowA (L : List Sg) (v : Nat) (a b : Int) : ∀ i,sgO (rowA L v (onN L (gpq L v).1 i)) (a,b) = if b = v then flC L (v + 1) (a,b) i else []
  | 0=>by split <;> rfl
  | i + 1=>by
    have e : onN L (gpq L v).1 (i + 1) = onN L (gpq L v).1 i ++ if onG L i v = true then [(i : Int)] else []:=rfl
    rw [e,rowA_app,sgO_app,sgO_rowA L v a b i]
    by_cases hb : b = v
    · subst hb
      rw [if_pos rfl,if_pos rfl]
      show _ = flC L (v + 1) (a,↑v) i ++ _
      congr 1
      by_cases h1 : onG L i v = true
      · rw [if_pos h1]
        unfold rowA
        simp only [List.filterMap_cons,List.filterMap_nil,Int.toNat_natCast]
        by_cases h2 : 0 ≤ lastN L i v
        · rw [if_pos h2]
          simp only []
          rw [sgO_one]
          by_cases ha : lastN L i v = a
          · subst ha; simp [isC,h1,h2]
          · simp [isC,ha]
        · rw [if_neg h2]
          simp only [sgO,List.filter_nil,List.map_nil]
          by_cases ha : lastN L i v = a
          · subst ha; simp [isC,h2]
          · simp [isC,ha]
      · rw [if_neg h1]
        simp [rowA,sgO,isC,h1]
    · rw [if_neg hb,if_neg hb,List.nil_append]
      split
      · unfold rowA
        simp only [List.filterMap_cons,List.filterMap_nil]
        split
        · rfl
        · rename_i h; split at h
          · rw [Option.some.injEq] at h; subst h
            rw [sgO_one,if_neg (by simp; omega)]
          · simp at h
      · rfl
theorem flC_out {L : List Sg} {m : Nat} {k : Ek} (h : ¬ (0 ≤ k.2 ∧ k.2.toNat < m)) : ∀ i,flC L m k i = []
  | 0=>rfl
  | i + 1=>by
    unfold flC
    rw [flC_out h i,if_neg (by simp only [isC,Bool.and_eq_true,decide_eq_true_eq]; intro hc; exact h ⟨hc.1.1.1.2,hc.1.1.2⟩)]; rfl
theorem flC_in {L : List Sg} {m m' : Nat} {k : Ek} (h : k.2.toNat < m) (h' : k.2.toNat < m') : ∀ i,flC L m k i = flC L m' k i
  | 0=>rfl
  | i + 1=>by
    unfold flC
    rw [flC_in h h' i,show isC L m k i = isC L m' k i by simp [isC,h,h']]
theorem sgO_A (L : List Sg) (k : Ek) : ∀ v,sgO (evA L v) k = flC L v k L.length
  | 0=>by rw [flC_out (by omega)]; rfl
  | v + 1=>by
    obtain ⟨a,b⟩:=k
    unfold evA
    rw [sgO_app,sgO_A L (a,b) v,hcZ,onL,sgO_rowA]
    by_cases hb : b = v
    · subst hb
      rw [if_pos rfl,flC_out (by simp)]; rfl
    · rw [if_neg hb,List.append_nil]
      by_cases h0 : 0 ≤ b ∧ b.toNat < v
      · exact flC_in h0.2 (by simp only []; omega) _
      · rw [flC_out h0,flC_out (by simp only []; omega)]
/-- The edges of segments. -/
def edL (L : List Sg) : List Ed:=insF (evB L (hitP L).length L.length)
theorem ed_plan {L : List Sg} {E : List Ed} (hp : E.Perm (gatF (evA L (hitP L).length))) (ho : E.Pairwise fun a b=>klt b.1 a.1 = false) : E = edL L :=
  ed_same (fun k=>by rw [sgO_A,sgO_B]) hp ho

/-- The points on a segment, in order. -/
def pN (L : List Sg) (i : Nat) : Nat → List Int
  | 0=>[]
  | k + 1=>pN L i k ++ if onG L i k = true then [(k : Int)] else []
theorem pN_last (L : List Sg) (i : Nat) : ∀ k,(pN L i k).getLast?.getD (-1) = lastN L i k
  | 0=>rfl
  | k + 1=>by
    unfold pN lastN
    split
    · simp
    · rw [List.append_nil]; exact pN_last L i k
theorem pN_pos (L : List Sg) (i : Nat) : ∀ k,∀ x ∈ pN L i k,0 ≤ x
  | 0=>by simp [pN]
  | k + 1=>by
    unfold pN
    intro x hx
    rcases List.mem_append.1 hx with h | h
    · exact pN_pos L i k x h
    · split at h
      · rw [List.mem_singleton] at h; omega
      · simp at h
theorem pN_len (L : List Sg) (i : Nat) : ∀ k,(pN L i k).length ≤ k
  | 0=>by simp [pN]
  | k + 1=>by have:=pN_len L i k; unfold pN; split <;> simp <;> omega
theorem zip_snoc (l : List Int) (x : Int) : (l ++ [x]).zip (l ++ [x]).tail = l.zip l.tail ++ match l.getLast? with | some y=>[(y,x)] | none=>[]:=by
  induction l with
  | nil=>rfl
  | cons a l ih =>
    cases l with
    | nil=>rfl
    | cons b r =>
      have e : (a :: b :: r).getLast? = (b :: r).getLast?:=by simp [List.getLast?_cons_cons]
      rw [e]
      simp only [List.cons_append,List.tail_cons,List.zip_cons_cons] at ih ⊢
      rw [ih]
theorem evP_zip (L : List Sg) (i : Nat) : ∀ k,evP L i k = (pN L i k).zip (pN L i k).tail
  | 0=>rfl
  | k + 1=>by
    unfold evP pN
    have hl:=pN_last L i k
    by_cases h : onG L i k = true
    · rw [if_pos h,zip_snoc,evP_zip L i k]
      congr 1
      cases hg : (pN L i k).getLast? with
      | none=>rw [hg] at hl; simp only [Option.getD_none] at hl; rw [← hl]; simp
      | some y =>
        rw [hg] at hl; simp only [Option.getD_some] at hl
        have:=pN_pos L i k y (List.mem_of_getLast? hg)
        rw [← hl]; simp [h,this]
    · rw [if_neg h,if_neg (fun hc=>h hc.1),List.append_nil,List.append_nil,evP_zip L i k]
end Go.Proofs.YtjbbbkfdcegfmaaGreat

/- Edges in order, as a comparison tells it; the row of edges under way. -/
namespace Go.Proofs.YtjbbbkfdcegfmaaGreat
open Go Go.RowKit

def cmI (x y : Int) : Int:=if x < y then -1 else if y < x then 1 else 0
def cmK (a b : Ek) : Int:=orL [cmI a.1 b.1,cmI a.2 b.2]
theorem cmI_neg {x y : Int} : cmI x y < 0 ↔ x < y:=by unfold cmI; split <;> (try split) <;> omega
theorem cmI_zero {x y : Int} : cmI x y = 0 ↔ x = y:=by unfold cmI; split <;> (try split) <;> omega
theorem ltc_cmK : ltc cmK = klt:=by
  funext a b
  have e : cmK a b = if cmI a.1 b.1 ≠ 0 then cmI a.1 b.1 else if cmI a.2 b.2 ≠ 0 then cmI a.2 b.2 else 0:=by simp [cmK,orL]
  have h1:=cmI_neg (x:=a.1) (y:=b.1)
  have h2:=cmI_zero (x:=a.1) (y:=b.1)
  have h3:=cmI_neg (x:=a.2) (y:=b.2)
  have h4 : ltc cmK a b = true ↔ klt a b = true:=by
    unfold ltc
    rw [klt_iff,e]
    simp only [decide_eq_true_eq]
    split <;> (try split) <;> omega
  exact Bool.eq_iff_iff.2 h4
theorem swoK : Sort.SWO klt where
  irrefl:=klt_irr
  trans _ _ _:=klt_tr
  ntrans x y z h1 h2:=by rw [klt_not] at *; omega

/-- Where a key stands. -/
def ixE (E : List Ed) (k : Ek) : Nat:=(E.map (·.1)).idxOf k
def memE (E : List Ed) : Ek → Option AV:=fun k=>if k ∈ E.map (·.1) then some (.int .i64 (ixE E k : Nat)) else none
theorem memE_new {E : List Ed} {k : Ek} (h : ¬ k ∈ E.map (·.1)) (n : Int) : fupd (memE E) k (.int .i64 (E.length : Nat)) = memE (E ++ [(k,[n])]):=by
  funext q
  unfold fupd memE ixE
  simp only [List.map_append,List.map_cons,List.map_nil,List.mem_append,List.mem_singleton]
  by_cases hq : q = k
  · subst hq
    rw [if_pos rfl,if_pos (.inr rfl),List.idxOf_append,if_neg h]
    simp
  · rw [if_neg hq]
    by_cases hm : q ∈ E.map (·.1)
    · rw [if_pos hm,if_pos (.inl hm),List.idxOf_append,if_pos hm]
    · rw [if_neg hm,if_neg (by simp [hm,hq])]
theorem ixE_get {E : List Ed} {k : Ek} (h : k ∈ E.map (·.1)) : ∃ e,E[ixE E k]? = some e ∧ e.1 = k:=by
  have hl : ixE E k < E.length:=by have:=List.idxOf_lt_length_iff.2 h; simpa [ixE] using this
  refine ⟨E[ixE E k],by simp,?_⟩
  have:=List.getElem_idxOf (x:=k) (xs:=E.map (·.1)) (by simpa [ixE] using hl)
  rw [List.getElem_map] at this
  exact this
/-- One more of an edge that is there. -/
theorem addE_old {E : List Ed} {k : Ek} {n : Int} (hn : (E.map (·.1)).Nodup) (h : k ∈ E.map (·.1)) : addE E k n = E.set (ixE E k) (k,(E.getD (ixE E k) default).2 ++ [n]):=by
  obtain ⟨e,he,hk⟩:=ixE_get h
  unfold addE
  rw [if_pos h]
  apply List.ext_getElem?
  intro i
  rw [List.getElem?_map,List.getElem?_set]
  have hl:=(List.getElem?_eq_some_iff.1 he).1
  by_cases hi : ixE E k = i
  · subst hi
    rw [if_pos rfl,if_pos hl,he]
    simp [hk,List.getD,he]
  · rw [if_neg hi]
    cases hx : E[i]? with
    | none=>rfl
    | some x =>
      have : x.1 ≠ k:=fun hxk=>by
        have hi':=(List.getElem?_eq_some_iff.1 hx).1
        have e1 : (E.map (·.1))[i]? = some k:=by rw [List.getElem?_map,hx,Option.map_some,hxk]
        have e2 : (E.map (·.1))[ixE E k]? = some k:=by rw [List.getElem?_map,he,Option.map_some,hk]
        exact hi ((List.getElem?_inj (by simpa using hl) hn).1 (e2.trans e1.symm))
      simp [this]
theorem addE_new {E : List Ed} {k : Ek} {n : Int} (h : ¬ k ∈ E.map (·.1)) : addE E k n = E ++ [(k,[n])]:=by unfold addE; rw [if_neg h]
theorem addE_len (E : List Ed) (k : Ek) (n : Int) : (addE E k n).length ≤ E.length + 1:=by unfold addE; split <;> simp
end Go.Proofs.YtjbbbkfdcegfmaaGreat

/- The kit's contract of slices.Sort at ints, as a call on a row of one's own. -/
namespace Go.Proofs.YtjbbbkfdcegfmaaGreat
open Go Go.RowKit Go.Sort

theorem putRow_K {α : Type} [Inhabited α] (enc : α → Value) (w : World) (blk off : Nat) (d : Array α) : putRow enc w blk off d = putRowK (fun x=>[enc x]) 1 w blk off d:=by
  unfold putRowK putRow
  congr 1
  funext c
  unfold putCells
  apply Array.ext (by simp)
  intro i h1 h2
  simp only [Array.getElem_mapIdx,size_flatK,Nat.mul_one]
  split
  · rename_i h
    rw [get_flatK _ _ _ _ (by omega),Nat.div_one,Nat.mod_one]; rfl
  · rfl
theorem holds_K {α : Type} [Inhabited α] {enc : α → Value} {w : World} {blk off : Nat} {d : Array α} (h : HoldsK (fun x=>[enc x]) 1 w blk off d) : Holds enc w blk off d:=fun j hj=>by
  have:=HoldsK.cell h hj (c:=0) (by omega)
  simpa using this

theorem sortI_ac {P : Program} {ρ : Shelf.Ren} (L : SlLaysM.n5 P ρ) (l : List Int) (n id : Nat) (HP : Heap) (nx : Nat) (hn : l.length = n) (hH : HP id = some (1,wd .i64 l)) (h0 : 0 < n) (hl : n ≤ 1099511627776) :
    ACall P (ρ.f 5) [.osl id 0 n] HP nx (fun r H' nx'=>r = .tup [] ∧ H' = hupd HP id (some (1,wd .i64 (l.mergeSort fun x y=>decide (x ≤ y)))) ∧ nx ≤ nx'):=by
  intro w0 w β vs h1 h2
  obtain ⟨v1,r1,rfl,hv1,rfl⟩:=h2
  obtain ⟨lc,hl1,hz,c,elem,hg,vss,hvs,hcs⟩:=h1.blk id 1 _ hH
  obtain ⟨a,cap,rfl,hcap,hor⟩:=hv1.2.2 lc hl1
  obtain rfl : a = some ⟨lc.g,lc.o,none⟩:=by
    rcases hor with h | ⟨h,_⟩
    · omega
    · rwa [Nat.zero_mul,Nat.add_zero] at h
  subst hn
  have ew : ∀ l : List Int,wd .i64 l = rwA (fun n : Int=>[AV.int .i64 n]) l.toArray:=fun l=>by simp [wd,rwA]
  rw [ew] at hvs
  obtain rfl:=vrll_is (fun e he=>by simp only [rwA,List.mem_map] at he; obtain ⟨x,_,rfl⟩:=he; rfl) hvs
  have hB : RowV (fun n : Int=>[Value.int .i64 n]) 1 w lc l.toArray:=⟨hz,c,elem,hg,fun e he j u hu=>(hcs e _ (by rw [List.getElem?_map,rwA_get he]; rfl)).2 j u hu⟩
  refine (AnyM.slices_Sort_int L lc.g lc.o cap l w (holds_K (sortW_holds (val:=fun n : Int=>[Value.int .i64 n]) (k:=1) (fun _=>rfl) hB)) (h1.dom id lc hl1).2.1 (by omega)).mono ?_
  rintro e w' ⟨rfl,m,os,rfl⟩
  rw [putRow_K]
  obtain ⟨hr,hm⟩:=sortW_hr (cells:=fun n : Int=>[AV.int .i64 n]) (val:=fun n : Int=>[Value.int .i64 n]) (fun _=>rfl) (fun _=>⟨_,_,rfl,rfl,rfl⟩) h1 (by rw [hH]; simp) hl1 hB m (l.mergeSort fun x y=>decide (x ≤ y)).toArray (by simp) os
  exact ⟨_,.tup [],_,nx,β,rfl,⟨rfl,by rw [ew],Nat.le_refl _⟩,hr,⟨#[],rfl,rfl⟩,hm,KeepF.refl _ _⟩
theorem sorted_self {l : List Int} (h : l.Pairwise fun x y=>x ≤ y) : l.mergeSort (fun x y=>decide (x ≤ y)) = l :=
  List.mergeSort_of_pairwise (h.imp fun h=>by simpa using h)
end Go.Proofs.YtjbbbkfdcegfmaaGreat

/- A row of edges of one's own, each with a row of its segments. -/
namespace Go.Proofs.YtjbbbkfdcegfmaaGreat
open Go Go.RowKit

/-- An edge's cells: its ends and where its segments lie. -/
def ecl (p : Ed × Nat) : List AV:=[.int .i64 p.1.1.1,.int .i64 p.1.1.2,.osl p.2 0 p.1.2.length]
/-- .. told for good. -/
def edC (e : Ed) : List AV:=[.int .i64 e.1.1,.int .i64 e.1.2,Wd .i64 e.2]
structure EdN (H : Heap) (lo hi ix : Nat) (D : List (Ed × Nat)) : Prop where
  ixr : lo ≤ ix ∧ ix < hi
  top : H ix = some (3,D.map ecl)
  fr : ∀ p ∈ D,lo ≤ p.2 ∧ p.2 < hi ∧ p.2 ≠ ix ∧ H p.2 = some (1,wd .i64 p.1.2)
  inj : (D.map (·.2)).Nodup

theorem insE_at {k : Ek} {n : Int} : ∀ {E : List Ed} {j : Nat},(∀ q,q < j → ∃ y,E[q]? = some y ∧ klt y.1 k = true) → (∀ e,E[j]? = some e → klt e.1 k = false ∧ e.1 ≠ k) → insE E k n = E.take j ++ (k,[n]) :: E.drop j
  | [],j,_,_=>by simp [insE]
  | e :: r,0,_,h2=>by
    obtain ⟨a,b⟩:=h2 e rfl
    unfold insE
    rw [if_neg (by simp [a]),if_neg b]; rfl
  | e :: r,j + 1,h1,h2=>by
    obtain ⟨y,hy,hk⟩:=h1 0 (by omega)
    obtain rfl : e = y:=by simpa using hy
    unfold insE
    rw [if_pos hk,insE_at (j:=j) (fun q hq=>by obtain ⟨y,hy,hk⟩:=h1 (q + 1) (by omega); exact ⟨y,by simpa using hy,hk⟩) (fun e he=>h2 e (by simpa using he))]
    rfl
theorem insE_on {k : Ek} {n : Int} {e : Ed} : ∀ {E : List Ed} {j : Nat},(∀ q,q < j → ∃ y,E[q]? = some y ∧ klt y.1 k = true) → E[j]? = some e → e.1 = k → insE E k n = E.set j (k,e.2 ++ [n])
  | [],j,_,h,_=>by simp at h
  | e' :: r,0,_,h,hk=>by
    obtain rfl : e' = e:=by simpa using h
    unfold insE
    rw [if_neg (by rw [hk,klt_irr]; simp),if_pos hk,hk]; rfl
  | e' :: r,j + 1,h1,h,hk=>by
    obtain ⟨y,hy,hkk⟩:=h1 0 (by omega)
    obtain rfl : e' = y:=by simpa using hy
    unfold insE
    rw [if_pos hkk,insE_on (j:=j) (fun q hq=>by obtain ⟨y,hy,hk⟩:=h1 (q + 1) (by omega); exact ⟨y,by simpa using hy,hk⟩) (by simpa using h) hk]
    rfl

section
variable {H H' : Heap} {lo hi hi' ix ix' : Nat} {D : List (Ed × Nat)}
theorem EdN.mono (h : EdN H lo hi ix D) (hh : hi ≤ hi') (he : ∀ k,lo ≤ k → k < hi → H' k = H k) : EdN H' lo hi' ix D :=
  ⟨⟨h.ixr.1,by have:=h.ixr.2; omega⟩,by rw [he ix h.ixr.1 h.ixr.2]; exact h.top,fun p hp=>by
    obtain ⟨a,b,c,d⟩:=h.fr p hp
    exact ⟨a,by omega,c,by rw [he p.2 a b]; exact d⟩,h.inj⟩
theorem EdN.at (h : EdN H lo hi ix D) {j : Nat} {p : Ed × Nat} (hp : D[j]? = some p) : lo ≤ p.2 ∧ p.2 < hi ∧ p.2 ≠ ix ∧ H p.2 = some (1,wd .i64 p.1.2):=h.fr p (List.mem_of_getElem? hp)

theorem nodup_set {l : List Nat} (h : l.Nodup) (j x : Nat) (hx : ¬ x ∈ l) : (l.set j x).Nodup:=by
  rw [List.nodup_iff_pairwise_ne,List.pairwise_iff_getElem] at *
  intro a b ha hb hab
  simp only [List.length_set] at ha hb
  have q:=h a b ha hb hab
  rw [List.getElem_set,List.getElem_set]
  split
  · split
    · omega
    · exact fun e=>hx (e ▸ List.getElem_mem hb)
  · split
    · exact fun e=>hx (e ▸ List.getElem_mem ha)
    · exact q

/-- One edge more of its segments, in a row of its own anew. -/
theorem EdN.set (h : EdN H lo hi ix D) {j : Nat} {p : Ed × Nat} (hp : D[j]? = some p) {x : Nat} {l : List Int} (hx : hi ≤ x) (hx' : x < hi') (h1 : H' x = some (1,wd .i64 l)) (h2 : H' ix = some (3,(D.map ecl).set j (ecl ((p.1.1,l),x)))) (he : ∀ k,lo ≤ k → k < hi → k ≠ ix → k ≠ p.2 → H' k = H k) : EdN H' lo hi' ix (D.set j ((p.1.1,l),x)):=by
  have hj:=(List.getElem?_eq_some_iff.1 hp).1
  refine ⟨⟨h.ixr.1,by have:=h.ixr.2; omega⟩,by rw [h2,List.map_set],fun q hq=>?_,?_⟩
  · obtain ⟨i,hi1,hi2⟩:=List.getElem_of_mem hq
    rw [List.getElem_set] at hi2
    have:=h.ixr
    split at hi2
    · subst hi2
      exact ⟨by simp only []; omega,hx',by simp only []; omega,h1⟩
    · rename_i hne
      simp only [List.length_set] at hi1
      have hqD : q ∈ D:=hi2 ▸ List.getElem_mem hi1
      obtain ⟨a,b,c,d⟩:=h.fr q hqD
      have hpq : q.2 ≠ p.2:=fun e=>by
        have e1 : (D.map (·.2))[i]? = some q.2:=by rw [List.getElem?_map,List.getElem?_eq_getElem hi1,hi2]; rfl
        have e2 : (D.map (·.2))[j]? = some q.2:=by rw [List.getElem?_map,hp,e]; rfl
        exact hne ((List.getElem?_inj (by simpa using hj) h.inj).1 (e2.trans e1.symm))
      exact ⟨a,by omega,c,by rw [he q.2 a b c hpq]; exact d⟩
  · rw [List.map_set]
    exact nodup_set h.inj j x fun hm=>by
      obtain ⟨q,hq,hqx⟩:=List.mem_map.1 hm
      have:=(h.fr q hq).2.1
      omega
/-- An edge more, in a new row. -/
theorem EdN.ins (h : EdN H lo hi ix D) (j : Nat) {x : Nat} {e : Ed} (hx : hi ≤ x) (hx' : x < hi') (hi1 : hi ≤ ix') (hi2 : ix' < hi') (hne : x ≠ ix') (h1 : H' x = some (1,wd .i64 e.2)) (h2 : H' ix' = some (3,(D.map ecl).take j ++ ecl (e,x) :: (D.map ecl).drop j)) (he : ∀ k,lo ≤ k → k < hi → k ≠ ix → H' k = H k) : EdN H' lo hi' ix' (D.take j ++ (e,x) :: D.drop j):=by
  have hl:=h.ixr
  have old : ∀ q ∈ D,lo ≤ q.2 ∧ q.2 < hi' ∧ q.2 ≠ ix' ∧ H' q.2 = some (1,wd .i64 q.1.2):=fun q hq=>by
    obtain ⟨a,b,c,d⟩:=h.fr q hq
    exact ⟨a,by omega,by omega,by rw [he q.2 a b c]; exact d⟩
  have hp : (D.take j ++ (e,x) :: D.drop j).Perm ((e,x) :: D):=by
    have:=List.perm_middle (a:=(e,x)) (l₁:=D.take j) (l₂:=D.drop j)
    rwa [List.take_append_drop] at this
  refine ⟨⟨by omega,hi2⟩,by rw [h2]; simp [List.map_take,List.map_drop],fun q hq=>?_,?_⟩
  · rcases List.mem_cons.1 (hp.mem_iff.1 hq) with rfl | hq
    · exact ⟨by simp only []; omega,hx',hne,h1⟩
    · exact old q hq
  · refine ((hp.map (·.2)).nodup_iff).2 (List.nodup_cons.2 ⟨fun hm=>?_,h.inj⟩)
    obtain ⟨q,hq,hqx⟩:=List.mem_map.1 hm
    have:=(h.fr q hq).2.1
    have e1 : q.2 = x:=hqx
    omega
/-- .. in order. -/
theorem EdN.perm (h : EdN H lo hi ix D) {D' : List (Ed × Nat)} (hp : D'.Perm D) (h2 : H' ix = some (3,D'.map ecl)) (he : ∀ k,lo ≤ k → k < hi → k ≠ ix → H' k = H k) (hh : hi ≤ hi') : EdN H' lo hi' ix D' :=
  ⟨⟨h.ixr.1,by have:=h.ixr.2; omega⟩,h2,fun p hq=>by
    obtain ⟨a,b,c,d⟩:=h.fr p (hp.mem_iff.1 hq)
    exact ⟨a,by omega,c,by rw [he p.2 a b c]; exact d⟩,((hp.map (·.2)).nodup_iff).2 h.inj⟩
end
end Go.Proofs.YtjbbbkfdcegfmaaGreat

/- How many edges there are; the pairs of points that follow one another on a segment. -/
namespace Go.Proofs.YtjbbbkfdcegfmaaGreat
open Go Go.RowKit

theorem insE_len (k : Ek) (n : Int) : ∀ E : List Ed,(insE E k n).length ≤ E.length + 1
  | []=>by simp [insE]
  | e :: r=>by
    have:=insE_len k n r
    unfold insE
    split
    · simp; omega
    · split <;> simp
theorem insF_len (A : List (Ek × Int)) : (insF A).length ≤ A.length:=by
  have : ∀ (B : List (Ek × Int)) (E : List Ed),(B.foldl (fun E x=>insE E x.1 x.2) E).length ≤ E.length + B.length:=by
    intro B
    induction B with
    | nil=>simp
    | cons x B ih =>
      intro E
      have:=ih (insE E x.1 x.2)
      have:=insE_len x.1 x.2 E
      simp only [List.foldl_cons,List.length_cons]; omega
  have:=this A []
  simpa [insF] using this
theorem gatF_len (A : List (Ek × Int)) : (gatF A).length ≤ A.length:=by
  have : ∀ (B : List (Ek × Int)) (E : List Ed),(B.foldl (fun E x=>addE E x.1 x.2) E).length ≤ E.length + B.length:=by
    intro B
    induction B with
    | nil=>simp
    | cons x B ih =>
      intro E
      have:=ih (addE E x.1 x.2)
      have:=addE_len E x.1 x.2
      simp only [List.foldl_cons,List.length_cons]; omega
  have:=this A []
  simpa [gatF] using this
theorem sgO_len (A : List (Ek × Int)) (k : Ek) : (sgO A k).length ≤ A.length:=by
  unfold sgO; rw [List.length_map]; exact List.length_filter_le _ _
theorem insF_seg {A : List (Ek × Int)} {e : Ed} (h : e ∈ insF A) : e.2.length ≤ A.length:=by rw [(insF_ok A).2.seg e h]; exact sgO_len _ _
theorem gatF_seg {A : List (Ek × Int)} {e : Ed} (h : e ∈ gatF A) : e.2.length ≤ A.length:=by rw [(gatF_ok A).2.seg e h]; exact sgO_len _ _
theorem evP_len (L : List Sg) (i : Nat) : ∀ m,(evP L i m).length ≤ m
  | 0=>by simp [evP]
  | m + 1=>by have:=evP_len L i m; unfold evP; split <;> simp <;> omega
theorem evB_len (L : List Sg) (m : Nat) : ∀ i,(evB L m i).length ≤ i * m
  | 0=>by simp [evB]
  | i + 1=>by have:=evB_len L m i; have:=evP_len L i m; unfold evB; simp [Nat.add_mul]; omega
theorem rowA_len (L : List Sg) (v : Nat) (l : List Int) : (rowA L v l).length ≤ l.length:=List.length_filterMap_le _ _
theorem evA_len (L : List Sg) : ∀ v,(evA L v).length ≤ v * L.length
  | 0=>by simp [evA]
  | v + 1=>by
    have:=evA_len L v
    have h1:=rowA_len L v (hcZ L v)
    have h2 : (hcZ L v).length ≤ L.length:=onN_len L _ _
    unfold evA; simp [Nat.add_mul]; omega

/-- The pair at a place. -/
theorem evP_at {L : List Sg} {i m k : Nat} (h : k + 1 < (pN L i m).length) : (evP L i m)[k]? = some (gt (pN L i m) k,gt (pN L i m) (k + 1)):=by
  rw [evP_zip,List.getElem?_zip_eq_some.2]
  · exact ⟨by simp [gt,List.getElem?_eq_getElem (show k < (pN L i m).length by omega)],by rw [List.getElem?_tail]; simp [gt,List.getElem?_eq_getElem h]⟩
theorem evP_size (L : List Sg) (i m : Nat) : (evP L i m).length = (pN L i m).length - 1:=by rw [evP_zip]; simp
/-- What segment i tells till its place k. -/
def evK (L : List Sg) (m i k : Nat) : List (Ek × Int):=evB L m i ++ ((evP L i m).take (k - 1)).map fun p=>(p,(i : Int))
theorem evK_one (L : List Sg) (m i : Nat) : evK L m i 1 = evB L m i:=by simp [evK]
theorem evK_step {L : List Sg} {m i k : Nat} (h1 : 1 ≤ k) (h : k < (pN L i m).length) : evK L m i k ++ [((gt (pN L i m) (k - 1),gt (pN L i m) k),(i : Int))] = evK L m i (k + 1):=by
  obtain ⟨k,rfl⟩ : ∃ q,k = q + 1:=⟨k - 1,by omega⟩
  have hk:=evP_at (L:=L) (i:=i) (m:=m) (k:=k) (by omega)
  unfold evK
  rw [Nat.add_sub_cancel,Nat.add_sub_cancel,List.take_add_one,hk,List.append_assoc,List.map_append]; rfl
theorem evK_end {L : List Sg} {m i k : Nat} (h : (pN L i m).length ≤ k) : evK L m i k = evB L m (i + 1):=by
  unfold evK
  rw [List.take_of_length_le (by rw [evP_size]; omega)]; rfl
theorem evK_len (L : List Sg) (m i k : Nat) : (evK L m i k).length ≤ (i + 1) * m:=by
  have h1:=evB_len L m i
  have h2:=evP_len L i m
  unfold evK; simp [Nat.add_mul]; omega
end Go.Proofs.YtjbbbkfdcegfmaaGreat
