/- Appends: what they do. -/
import Derived.Test.YtjbbbkfdcegfmaaGreatG0J
import Derived.Laws.AppendOwn

namespace Go.Proofs.YtjbbbkfdcegfmaaGreat
open Go Go.RowKit

/-- What is appended: cells that lie somewhere, or noughts. -/
inductive Src (P : Program) (w : World) (i : TypeInfo) (z : Value) (t1 : TypeId) (x : Value) (m : Nat) (news : List Value) : Prop
  | sl (a : Option Addr) (c : Nat) (e : TypeId) (hx : x = .slice a m c) (ht : P.underlying t1 = some (.slice e)) (hl : news.length = m * i.size) (hn : ∀ j v,news[j]? = some v → ∃ a',a = some a' ∧ w.cell? (a'.add j) = some v)
  | zs (k k' : IntKind) (hx : x = .int k (m : Int)) (ht : P.underlying t1 = some (.int k')) (hm : m ≤ 9223372036854775807) (hb : m * i.bytes ≤ 281474976710656) (hn : news = (Builtin.zeroCells z.cells m).toList) (h0 : m * i.size ≠ 0)

theorem firstCells_any {P : Program} {w : World} {size m : Nat} {a : Option Addr} {c : Nat} {news : List Value} (hl : news.length = m * size) (hn : ∀ j v,news[j]? = some v → ∃ a',a = some a' ∧ w.cell? (a'.add j) = some v) :
    (Builtin.firstCells size m (.slice a m c)).run P w = .ok news.toArray w:=by
  cases a with
  | none =>
    have : news = []:=by
      cases news with
      | nil=>rfl
      | cons v r=>obtain ⟨a',h,_⟩:=hn 0 v rfl; simp at h
    subst this
    exact run_firstCells_none w size m m c
  | some a =>
    refine run_firstCells_some w size m a m c news hl fun j v hj=>?_
    obtain ⟨a',h1,h2⟩:=hn j v hj
    simp only [Option.some.injEq] at h1; subst h1; exact h2

section
variable {P : Program} {w : World} {t t1 ty el : TypeId} {i : TypeInfo} {z : Value} {x : Value} {m : Nat} {news : List Value}

theorem wrap_small (m : Nat) (h : m ≤ 9223372036854775807) : IntKind.i64.wrap (m : Int) = m:=by
  simp only [IntKind.wrap,IntKind.bits,IntKind.signed]
  simp
  omega

theorem app_room (ht : P.underlying t = some (.slice el)) (hi : P.info? el = some i) (hz : i.zero = some z) (hs : Src P w i z t1 x m news) (a : Addr) (n cap : Nat) (hr : n + m ≤ cap) :
    (Builtin.append_ #[t,t1] ty #[.slice (some a) n cap,x]).run P w = ((storeCells (a.add (n * i.size)) news).run P w).andThen fun _ w'=>.ok (.slice (some a) (n + m) cap) w':=by
  cases hs with
  | sl a' c e hx ht1 hl hn =>
    subst hx
    have hf:=firstCells_any (P:=P) (w:=w) (c:=c) hl hn
    simp [Builtin.append_,run_underlying ht,run_underlying ht1,sizeOf,typeInfo,hi,Builtin.lenOf,hr,hf]
  | zs k k' hx ht1 hm hb hn h0 =>
    subst hx
    have hw:=wrap_small m hm
    have h1 : ¬ ((m : Int) < 0):=by omega
    have h2 : ¬ (281474976710656 < (m : Int) * (i.bytes : Int)):=by
      have e : (m : Int) * (i.bytes : Int) = ((m * i.bytes : Nat) : Int):=by simp
      rw [e]; omega
    have h3 : ¬ (m = 0 ∨ i.size = 0):=fun h=>h0 (Nat.mul_eq_zero.mpr h)
    have ha : ∀ w' : World,(asInt (.int k (m : Int))).run P w' = .ok (m : Int) w':=fun w'=>rfl
    simp [Builtin.append_,run_underlying ht,run_underlying ht1,sizeOf,typeInfo,hi,ha,hw,h1,h2,hr,h3,h0,zeroValue,hz,hn]

theorem app_grow (ht : P.underlying t = some (.slice el)) (hi : P.info? el = some i) (hz : i.zero = some z) (hs : Src P w i z t1 x m news) (a : Option Addr) (n cap : Nat) (olds : List Value) (hlo : olds.length = n * i.size)
    (ho : ∀ j v,olds[j]? = some v → ∃ a',a = some a' ∧ w.cell? (a'.add j) = some v) (hr : cap < n + m) (hfit : (n + m) * i.bytes ≤ 140737488355328) (h63 : n + m ≤ 9223372036854775807) :
    ∃ cap' rest,n + m ≤ cap' ∧ rest.length = (cap' - (n + m)) * z.cells.size ∧ (Builtin.append_ #[t,t1] ty #[.slice a n cap,x]).run P w = .ok (.slice (some ⟨w.heap.size,0,none⟩) (n + m) cap') (w.drew.alloc (.cells (olds ++ news ++ rest).toArray el)):=by
  have hfit':=growslice_fits (need:=n + m) (old:=cap) hr hfit
  have hn' : ¬ (n + m ≤ cap):=by omega
  have h63' : ¬ (9223372036854775807 < ((n : Int) + (m : Int))):=by omega
  have h48' : ¬ (281474976710656 < Builtin.nextslicecap (n + m) cap * i.bytes):=by omega
  have hfo:=firstCells_any (P:=P) (w:=w.drew) (c:=cap) hlo (by simpa using ho)
  refine ⟨grownCap w (n + m) cap el,(Builtin.zeroCells z.cells (grownCap w (n + m) cap el - (n + m))).toList,grownCap_ge _ _ _ _,by simp [size_zeroCells],?_⟩
  cases hs with
  | sl a' c e hx ht1 hl hn =>
    subst hx
    have hf:=firstCells_any (P:=P) (w:=w.drew) (c:=c) hl (by simpa using hn)
    simp [Builtin.append_,run_underlying ht,run_underlying ht1,sizeOf,typeInfo,zeroValue,hi,hz,Builtin.lenOf,hn',h63',h48',Question.forced,hf,hfo,newRow,grownCap]
    congr 2
    apply Array.ext'
    simp [List.append_assoc]
  | zs k k' hx ht1 hm hb hn h0 =>
    subst hx
    have hw:=wrap_small m hm
    have h1 : ¬ ((m : Int) < 0):=by omega
    have h2 : ¬ (281474976710656 < (m : Int) * (i.bytes : Int)):=by
      have e : (m : Int) * (i.bytes : Int) = ((m * i.bytes : Nat) : Int):=by simp
      rw [e]; omega
    have h3 : ¬ (m = 0 ∨ i.size = 0):=fun h=>h0 (Nat.mul_eq_zero.mpr h)
    have ha : ∀ w' : World,(asInt (.int k (m : Int))).run P w' = .ok (m : Int) w':=fun w'=>rfl
    have h4 : ¬ (IntKind.i64.max < ((n : Int) + (m : Int))):=by
      have : IntKind.i64.max = 9223372036854775807:=rfl
      omega
    simp [Builtin.append_,run_underlying ht,run_underlying ht1,sizeOf,typeInfo,zeroValue,hi,hz,ha,hw,h1,h2,h3,h0,hn',h63',h4,h48',Question.forced,hfo,newRow,grownCap,hn]
    try (congr 2; apply Array.ext'; simp [List.append_assoc])
end
end Go.Proofs.YtjbbbkfdcegfmaaGreat
