/- The kit's contract of slices.SortFunc at a row that is nil. -/
import Derived.Test.YtjbbbkfdcegfmaaGreatG12

namespace Go.Proofs.YtjbbbkfdcegfmaaGreat
open Go Go.RowKit Go.Sort
theorem sortZ_ac {P : Program} {ρ : Shelf.Ren} (L : SlLaysF0.n6 P ρ) (f : Nat) (caps : List AV) (HP : Heap) (nx : Nat) :
    ACall P (ρ.f 6) [.nsl,.fn f caps] HP nx (fun r H' nx'=>r = .tup [] ∧ nx' = nx ∧ H' = HP):=by
  intro w0 w β vs h1 h2
  obtain ⟨v1,r1,rfl,rfl,v2,r2,rfl,hv2,rfl⟩:=h2
  obtain ⟨cb,rfl,hcp⟩:=hv2
  refine (AnyF.slices_SortFunc_none { L with } none 0 (.func (.func f) #[] cb) w).mono ?_
  rintro e w' ⟨rfl,rfl⟩
  exact ⟨_,.tup [],HP,nx,β,rfl,⟨rfl,rfl,rfl⟩,h1,⟨#[],rfl,rfl⟩,Mon.refl _ _ _,KeepF.refl _ _⟩
end Go.Proofs.YtjbbbkfdcegfmaaGreat

/- Edges of a segment; where a number stands in a row. -/
namespace Go.Proofs.YtjbbbkfdcegfmaaGreat
open Go Go.RowKit

def ixZ (l : List Int) (x : Int) : Int:=if x ∈ l then (l.idxOf x : Nat) else -1
theorem ixZ_at {l : List Int} {x : Int} {i : Nat} (h : ∀ j,j < i → gt l j ≠ x) (hi : i < l.length) (hx : gt l i = x) : ixZ l x = i:=by
  have hm : ∀ j,(hj : j < l.length) → l[j] = gt l j:=fun j hj=>by unfold gt; rw [List.getElem?_eq_getElem hj]; rfl
  unfold ixZ
  have hmem : x ∈ l:=by rw [← hx,← hm i hi]; exact List.getElem_mem hi
  rw [if_pos hmem]
  have hlt:=List.idxOf_lt_length_of_mem hmem
  have hge : l[l.idxOf x] = x:=List.getElem_idxOf hlt
  rcases Nat.lt_trichotomy (l.idxOf x) i with q | q | q
  · exact absurd (by rw [← hm _ hlt,hge]) (h _ q)
  · rw [q]
  · have:=List.not_of_lt_findIdx (p:=(· == x)) (xs:=l) (i:=i) q
    rw [hm i hi,hx] at this; simp at this
theorem ixZ_no {l : List Int} {x : Int} (h : ∀ j,j < l.length → gt l j ≠ x) : ixZ l x = -1:=by
  unfold ixZ
  rw [if_neg]
  intro hm
  obtain ⟨i,hi,rfl⟩:=List.getElem_of_mem hm
  exact h i hi (by unfold gt; rw [List.getElem?_eq_getElem hi]; rfl)
theorem ixZ_ge (l : List Int) (x : Int) : 0 ≤ ixZ l x ↔ x ∈ l:=by
  unfold ixZ; split <;> rename_i h <;> simp [h]
/-- The edges of segment n, among the first i. -/
def eoF (E : List Ed) (n : Int) : Nat → List Int
  | 0=>[]
  | i + 1=>eoF E n i ++ if n ∈ (edq E i).2 then [(i : Int)] else []
def eoL (L : List Sg) (n : Int) : List Int:=eoF (edL L) n (edL L).length
theorem eoF_len (E : List Ed) (n : Int) : ∀ i,(eoF E n i).length ≤ i
  | 0=>by simp [eoF]
  | i + 1=>by have:=eoF_len E n i; unfold eoF; rw [List.length_append]; split <;> simp <;> omega
theorem eoF_yes {E : List Ed} {n : Int} {i : Nat} (h : n ∈ (edq E i).2) : eoF E n (i + 1) = eoF E n i ++ [(i : Int)]:=by rw [eoF,if_pos h]
theorem eoF_no {E : List Ed} {n : Int} {i : Nat} (h : ¬ n ∈ (edq E i).2) : eoF E n (i + 1) = eoF E n i:=by rw [eoF,if_neg h,List.append_nil]
theorem edL_b {L : List Sg} (h1 : L.length ≤ 40) (h2 : (hitP L).length ≤ 1680) : (edL L).length ≤ 67200 ∧ ∀ e ∈ edL L,e.2.length ≤ 67200:=by
  have h3 : L.length * (hitP L).length ≤ 40 * 1680:=Nat.mul_le_mul h1 h2
  have h4:=evB_len L (hitP L).length L.length
  exact ⟨by have:=insF_len (evB L (hitP L).length L.length); show (insF _).length ≤ _; omega,fun e he=>by have:=insF_seg he; omega⟩
theorem edL_nodup {L : List Sg} {e : Ed} (h : e ∈ edL L) : e.2.Nodup:=by
  have hs:=(insF_ok (evB L (hitP L).length L.length)).2.seg e h
  rw [sgO_B] at hs
  have : ∀ i,(flC L (hitP L).length e.1 i).Nodup ∧ ∀ z ∈ flC L (hitP L).length e.1 i,z < i:=by
    intro i
    induction i with
    | zero=>simp [flC]
    | succ i ih =>
      unfold flC
      refine ⟨List.nodup_append.2 ⟨ih.1,by split <;> simp,fun a ha b hb e=>?_⟩,fun z hz=>?_⟩
      · split at hb
        · rw [List.mem_singleton] at hb; have:=ih.2 a ha; omega
        · simp at hb
      · rcases List.mem_append.1 hz with h | h
        · have:=ih.2 z h; omega
        · split at h
          · rw [List.mem_singleton] at h; omega
          · simp at h
  rw [hs]; exact (this L.length).1
/-- What is told of the first k segments of an edge. -/
def eoT (n : Int) (l : List Int) (k : Nat) (i : Int) : List Int:=if n ∈ l.take k then [i] else []
theorem eoT_zero (n : Int) (l : List Int) (i : Int) : eoT n l 0 i = []:=by simp [eoT]
theorem eoT_yes {n : Int} {l : List Int} {k : Nat} {i : Int} (hn : l.Nodup) (hk : k < l.length) (h : gt l k = n) : eoT n l k i = [] ∧ eoT n l (k + 1) i = [i]:=by
  have hg : l[k] = n:=by rw [← h]; unfold gt; rw [List.getElem?_eq_getElem hk]; rfl
  have ht : l.take (k + 1) = l.take k ++ [n]:=by rw [List.take_add_one,List.getElem?_eq_getElem hk,hg]; rfl
  have hno : ¬ n ∈ l.take k:=fun hc=>by
    have:=hn.sublist (List.take_sublist (k + 1) l)
    rw [ht,List.nodup_append] at this
    exact this.2.2 n hc n (by simp) rfl
  unfold eoT
  exact ⟨if_neg hno,if_pos (by rw [ht]; simp)⟩
theorem eoT_no {n : Int} {l : List Int} {k : Nat} {i : Int} (hk : k < l.length) (h : ¬ gt l k = n) : eoT n l (k + 1) i = eoT n l k i:=by
  have ht : l.take (k + 1) = l.take k ++ [gt l k]:=by rw [List.take_add_one]; unfold gt; rw [List.getElem?_eq_getElem hk]; rfl
  unfold eoT
  rw [ht]
  have : n ∈ l.take k ++ [gt l k] ↔ n ∈ l.take k:=by simp; exact fun e=>absurd e.symm h
  by_cases hm : n ∈ l.take k
  · rw [if_pos hm,if_pos (this.2 hm)]
  · rw [if_neg hm,if_neg fun h=>hm (this.1 h)]
theorem eoT_end {E : List Ed} {n : Int} {i k : Nat} (h : (edq E i).2.length ≤ k) : eoF E n i ++ eoT n (edq E i).2 k i = eoF E n (i + 1):=by unfold eoT; rw [List.take_of_length_le h]; rfl
/-- The cells of an edge told for good. -/
theorem edC_at {E : List Ed} {i : Nat} (h : i < E.length) : (E.map edC)[i]? = some [.int .i64 (edq E i).1.1,.int .i64 (edq E i).1.2,Wd .i64 (edq E i).2]:=by rw [List.getElem?_map,edq_get h]; rfl
end Go.Proofs.YtjbbbkfdcegfmaaGreat
