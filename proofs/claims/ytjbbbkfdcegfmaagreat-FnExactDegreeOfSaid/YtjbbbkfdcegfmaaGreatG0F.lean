/- What an operation yields hangs on its operands and on the blocks that they speak of, on nothing else. -/
import Derived.Test.YtjbbbkfdcegfmaaGreatG0E

namespace Go.Proofs.YtjbbbkfdcegfmaaGreat
open Go Go.RowKit

/-- The block that a value speaks of at its head. -/
def topId : AV → Option Nat
  | .ptr id _ _=>some id
  | .osl id _ _=>some id
  | _=>none

/-- As far as this value asks, the heaps are one. -/
def Agr (H H' : Heap) (x : AV) : Prop:=∀ id q,topId x = some id → H id = some q → H' id = some q

section
variable {P : Program} {s s' : St}
theorem aLd_congr {t : TypeId} {x r : AV} (h : Agr s.heap s'.heap x) (k : aLd P s t x = some r) : aLd P s' t x = some r:=by
  cases x <;> simp only [aLd,reduceCtorEq] at k ⊢
  case ptr id e o =>
    cases hh : s.heap id with
    | none=>simp [hh] at k
    | some q=>rw [h id q rfl hh]; rw [hh] at k; exact k
  case ip cs=>exact k
theorem aField_congr {t : TypeId} {f : Nat} {x r : AV} (h : Agr s.heap s'.heap x) (k : aField P s t x f = some r) : aField P s' t x f = some r:=by
  unfold aField at *
  split at k
  · split at k
    · simp at k
    · rename_i hn
      rw [if_neg hn]
      cases x <;> simp only [reduceCtorEq] at k ⊢
      case ptr id e o =>
        cases hh : s.heap id with
        | none=>simp [hh] at k
        | some q=>rw [h id q rfl hh]; simpa [hh] using k
      case ip cs=>exact k
  · simp at k
theorem aIdx_congr {t : TypeId} {x i r : AV} (h : Agr s.heap s'.heap x) (k : aIdx P s t x i = some r) : aIdx P s' t x i = some r:=by
  unfold aIdx at *
  split at k
  · split at k
    · rename_i h0
      rw [if_pos h0]
      cases x <;> simp only [reduceCtorEq] at k ⊢
      case isl es=>exact k
      case osl id st n =>
        cases hh : s.heap id with
        | none=>simp [hh] at k
        | some q=>rw [h id q rfl hh]; rw [hh] at k; exact k
    · simp at k
  · simp at k
theorem aSlc_congr {t : TypeId} {x r : AV} {lo hi : Option AV} (h : Agr s.heap s'.heap x) (k : aSlc P s t x lo hi = some r) : aSlc P s' t x lo hi = some r:=by
  cases x <;> simp only [aSlc,reduceCtorEq] at k ⊢
  case osl id st n =>
    cases hh : s.heap id with
    | none=>simp [hh] at k
    | some q=>rw [h id q rfl hh]; rw [hh] at k; exact k
  all_goals exact k
theorem aBi_congr {bi : Builtin} {ts : Array TypeId} {xs : List AV} {r : AV} (h : ∀ x ∈ xs,Agr s.heap s'.heap x) (k : aBi P s bi ts xs = some r) : aBi P s' bi ts xs = some r:=by
  unfold aBi at *
  split at k
  case h_3 id q n =>
    split at k
    · split at k
      · rename_i hc
        cases hh : s.heap id with
        | none=>simp [hh] at hc
        | some q' =>
          have:=h (.osl id q n) (by simp) id q' rfl hh
          rw [if_pos ⟨hc.1,by simp [this]⟩]; exact k
      · simp at k
    · simp at k
  all_goals exact k

theorem ev_map_congr {l : List Operand} (h : ∀ x ∈ l,ev s'.env x = ev s.env x) : l.map (ev s'.env) = l.map (ev s.env):=List.map_congr_left h

theorem opVal_congr {op : Op} {r : AV} (h : ∀ x ∈ op.operands.toList,ev s'.env x = ev s.env x) (g : ∀ x ∈ op.operands.toList,Agr s.heap s'.heap (ev s.env x)) (k : opVal P s op = some r) : opVal P s' op = some r:=by
  cases op <;> simp only [opVal,reduceCtorEq] at k ⊢
  case move x=>rw [h x (by simp [Op.operands])]; exact k
  case assign x=>rw [h x (by simp [Op.operands])]; exact k
  case pick c x y=>rw [h c (by simp [Op.operands]),h x (by simp [Op.operands]),h y (by simp [Op.operands])]; exact k
  case build t ps =>
    have : evs s'.env ps.toList = evs s.env ps.toList:=List.map_congr_left fun p hp=>by rw [h p.2 (by simp [Op.operands]; exact ⟨p.1,by simpa using hp⟩)]
    rw [this]; exact k
  case load t x=>rw [h x (by simp [Op.operands])]; exact aLd_congr (g x (by simp [Op.operands])) k
  case binOp op t x y ty=>rw [h x (by simp [Op.operands]),h y (by simp [Op.operands])]; exact k
  case unOp op t x=>rw [h x (by simp [Op.operands])]; exact k
  case convert a b x=>rw [h x (by simp [Op.operands])]; exact k
  case extract x i=>rw [h x (by simp [Op.operands])]; exact k
  case fieldAddr t x f=>rw [h x (by simp [Op.operands])]; exact aField_congr (g x (by simp [Op.operands])) k
  case field t x f=>rw [h x (by simp [Op.operands])]; exact k
  case indexAddr t x i=>rw [h x (by simp [Op.operands]),h i (by simp [Op.operands])]; exact aIdx_congr (g x (by simp [Op.operands])) k
  case index t x i=>rw [h x (by simp [Op.operands]),h i (by simp [Op.operands])]; exact k
  case slice t x lo hi mx =>
    cases mx with
    | some m=>simp at k
    | none =>
      simp only [] at k ⊢
      have e1 : lo.map (ev s'.env) = lo.map (ev s.env):=by
        cases lo with
        | none=>rfl
        | some l=>simp [h l (by simp [Op.operands])]
      have e2 : hi.map (ev s'.env) = hi.map (ev s.env):=by
        cases hi with
        | none=>rfl
        | some l=>simp [h l (by simp [Op.operands])]
      rw [h x (by simp [Op.operands]),e1,e2]
      exact aSlc_congr (g x (by simp [Op.operands])) k
  case nilCheck x =>
    rw [h x (by simp [Op.operands])]
    have hg:=g x (by simp [Op.operands])
    split at k
    · rename_i id e o hx
      rw [hx] at hg
      cases hh : s.heap id with
      | none=>simp [hh] at k
      | some q=>simp only [hg id q rfl hh,Option.isSome_some,if_true]; simpa [hh] using k
    · exact k
    · exact k
    · simp at k
  case makeFunc fn first caps =>
    cases fn <;> simp only [reduceCtorEq] at k ⊢
    rw [ev_map_congr (fun x hx=>h x (by simp [Op.operands]; right; simpa using hx))]; exact k
  case call c =>
    split at k
    · rename_i bi hc
      rw [ev_map_congr (fun x hx=>h x (by simp [Op.operands,Call.operands,hc]; exact by simpa using hx))]
      refine aBi_congr (fun x hx=>?_) k
      obtain ⟨y,hy,rfl⟩:=List.mem_map.mp hx
      exact g y (by simp [Op.operands,Call.operands,hc]; exact by simpa using hy)
    · simp at k
end
end Go.Proofs.YtjbbbkfdcegfmaaGreat
