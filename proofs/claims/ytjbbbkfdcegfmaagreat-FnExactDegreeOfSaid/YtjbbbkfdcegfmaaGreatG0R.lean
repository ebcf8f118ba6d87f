/- Arguments opened: what a row's input reads as, as an abstract value. -/
import Derived.Test.YtjbbbkfdcegfmaaGreatG0Q
import Derived.Deep.Slices
import Derived.Deep.Strs
import Derived.ChangeArms
import Derived.DataReads

namespace Go.Proofs.YtjbbbkfdcegfmaaGreat
open Go Go.RowKit

def β0 : Nat → Option Loc:=fun _=>none
def b0 : Nat → Bool:=fun _=>false
theorem notown0 (g : Nat) : notown β0 g:=fun _ _ h=>by simp [β0] at h
theorem VRLL_map {α : Type} {w : World} {β : Nat → Option Loc} {b : Nat → Bool} (f : α → List AV) (g : α → List Value) : ∀ l : List α,(∀ i ∈ l,VRL w β b (f i) (g i)) → VRLL w β b (l.map f) (l.map g)
  | [],_=>rfl
  | x :: r,h=>⟨g x,r.map g,rfl,h x (by simp),VRLL_map f g r fun i hi=>h i (by simp [hi])⟩

section
variable {H : Type} {enc : TypeId × Value → H} {P : Program} {w : World} {base : Nat} {sp : Nat → Bool} {held : Bool}
theorem cell_spot {a : Addr} {u : Value} (h : w.cell? a = some u) : a.spot = none:=by
  unfold World.cell? at h
  split at h
  · split at h
    · simp at h
    · rename_i hs; simpa using hs
  · simp at h
theorem open_rows {α : Type} {t e : TypeId} {z fuel : Nat} {cs : List Value} {x : DataW H × List MemPlace} (ht : P.underlying t = some (.slice e)) (hz : P.cellsOf e = z) (hz0 : 0 < z) (Q : α → Prop) (cells : α → List AV)
    (hel : ∀ fuel cs x,DataW.trod enc P w base sp held fuel e cs = some x → ∃ p : α,Q p ∧ VRL w β0 b0 (cells p) cs)
    (h : DataW.trod enc P w base sp held fuel t cs = some x) : ∃ l : List α,(∀ p ∈ l,Q p) ∧ l.length ≤ maxLen ∧ ∃ v,cs = [v] ∧ VR w β0 b0 (.isl (l.map cells)) v:=by
  rcases Go.Deep.open_slice ht h with ⟨rfl,_⟩ | ⟨a,len,cap,m,n,D,Pl,rfl,hb,hl,hm,hmm,_,hcell⟩
  · exact ⟨[],fun p hp=>by simp at hp,Nat.zero_le _,_,rfl,none,0,z,[],rfl,Nat.le_refl _,rfl,fun e vs he=>by simp at he⟩
  · have hlm : len ≤ m:=by rw [hmm]; split <;> omega
    have key : ∀ k,k ≤ len → ∃ l : List (α × List Value),l.length = k ∧ ∀ i q,l[i]? = some q → Q q.1 ∧ VRL w β0 b0 (cells q.1) q.2 ∧ w.cells? base (a.add (i * z)) z = some q.2:=by
      intro k
      induction k with
      | zero=>intro _; exact ⟨[],rfl,fun i q hq=>by simp at hq⟩
      | succ k ih =>
        intro hk
        obtain ⟨l,hl1,hl2⟩:=ih (by omega)
        obtain ⟨cs',h1,h2⟩:=hcell k (by omega)
        rw [hz] at h1
        obtain ⟨p,hp1,hp2⟩:=hel _ _ _ h2
        refine ⟨l ++ [(p,cs')],by simp [hl1],fun i q hq=>?_⟩
        rcases Nat.lt_or_ge i k with hi | hi
        · rw [List.getElem?_append_left (by omega)] at hq
          exact hl2 i q hq
        · rw [List.getElem?_append_right (by omega),hl1] at hq
          have hik : i - k = 0:=by
            rcases Nat.eq_zero_or_pos (i - k) with h0 | h0
            · exact h0
            · rw [List.getElem?_eq_none (by simp; omega)] at hq; simp at hq
          rw [hik] at hq
          simp only [List.getElem?_cons_zero,Option.some.injEq] at hq
          subst hq
          have : i = k:=by omega
          subst this
          exact ⟨hp1,hp2,h1⟩
    obtain ⟨l,hl1,hl2⟩:=key len (Nat.le_refl _)
    have hmem : ∀ q ∈ l,∃ i,l[i]? = some q:=fun q hq=>List.getElem?_of_mem hq
    refine ⟨l.map (·.1),fun p hp=>?_,by simp; omega,_,rfl,some a,cap,z,l.map (·.2),?_,by simp; omega,?_,?_⟩
    · obtain ⟨q,hq,rfl⟩:=List.mem_map.1 hp
      obtain ⟨i,hi⟩:=hmem q hq
      exact (hl2 i q hi).1
    · simp [hl1]
    · rw [List.map_map]
      exact VRLL_map _ _ l fun q hq=>by
        obtain ⟨i,hi⟩:=hmem q hq
        exact (hl2 i q hi).2.1
    · intro i vs hi
      rw [List.getElem?_map] at hi
      obtain ⟨q,hq,rfl⟩:=Option.map_eq_some_iff.1 hi
      obtain ⟨_,_,hc⟩:=hl2 i q hq
      obtain ⟨_,hlen,hcc⟩:=World.cells?_some hc
      refine ⟨hlen,fun j u hu=>?_⟩
      have hj : j < z:=by
        rcases Nat.lt_or_ge j z with h' | h'
        · exact h'
        · rw [List.getElem?_eq_none (by omega)] at hu; simp at hu
      have:=hcc j hj
      rw [hu] at this
      have hs' : a.spot = none:=by
        have hil : i < l.length:=by
          rcases Nat.lt_or_ge i l.length with h' | h'
          · exact h'
          · rw [List.getElem?_eq_none h'] at hq; simp at hq
        obtain ⟨q0,hq0⟩ : ∃ q0,l[0]? = some q0:=⟨l[0],by simp⟩
        obtain ⟨_,_,hc0⟩:=hl2 0 q0 hq0
        obtain ⟨_,hlen0,hcc0⟩:=World.cells?_some hc0
        have h1:=hcc0 0 hz0
        rw [List.getElem?_eq_getElem (by omega)] at h1
        have h2:=cell_spot h1
        simpa [Addr.add] using h2
      refine ⟨a.block,a.off,by cases a; simp only [] at hs'; subst hs'; rfl,?_,notown0 _⟩
      rw [← this]
      congr 1
      cases a with
      | mk g o s =>
        simp only [] at hs'
        subst hs'
        simp only [Addr.add]
        by_cases h1 : i * z = 0 <;> by_cases h2 : j = 0 <;> simp [h1,h2,Nat.add_assoc]
end
end Go.Proofs.YtjbbbkfdcegfmaaGreat
