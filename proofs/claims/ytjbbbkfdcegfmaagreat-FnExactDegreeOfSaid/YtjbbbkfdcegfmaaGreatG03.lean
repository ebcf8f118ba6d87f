/- How the own blocks grow and are written: new blocks, stores, blocks that are given up. -/
import Derived.Test.YtjbbbkfdcegfmaaGreatG02
import Derived.Laws.CopyRow
import Derived.Laws.AppendOwn
import Derived.Laws.MakeOwn

namespace Go.Proofs.YtjbbbkfdcegfmaaGreat
open Go Go.RowKit

def hupd (H : Heap) (id : Nat) (b : Option (Nat × List (List AV))) : Heap:=fun i=>if i = id then b else H i
def bupd (β : Nat → Option Loc) (id : Nat) (l : Option Loc) : Nat → Option Loc:=fun i=>if i = id then l else β i

theorem heap_alloc_lt (w : World) (o : Obj) (k : Nat) (h : k < w.heap.size) : (w.alloc o).heap[k]? = w.heap[k]?:=by
  simp only [World.alloc,Array.getElem?_push]; rw [if_neg (by omega)]
theorem heap_alloc_eq (w : World) (o : Obj) : (w.alloc o).heap[w.heap.size]? = some o:=by
  show (w.heap.push o)[w.heap.size]? = some o
  simp

theorem shape_lt {w : World} {g : Nat} {e : TypeId × Nat} (h : w.shape? g = some e) : g < w.heap.size:=by
  unfold World.shape? at h
  rcases Nat.lt_or_ge g w.heap.size with hlt | hge
  · exact hlt
  · rw [Array.getElem?_eq_none hge] at h; simp at h

theorem shape_of_block {w w' : World} {g : Nat} (h : w'.heap[g]? = w.heap[g]?) : w'.shape? g = w.shape? g:=by
  unfold World.shape?; rw [h]

theorem BR.mon {w w' : World} {β β' : Nat → Option Loc} {b b' : Nat → Bool} (m : Mon w β b w' β' b') {l : Loc} {z : Nat} {es : List (List AV)} (h : BR w β b l z es) (hg : w'.heap[l.g]? = w.heap[l.g]?) : BR w' β' b' l z es:=by
  obtain ⟨hz,c,e,h1,vss,h2,h3⟩:=h
  exact ⟨hz,c,e,by rw [hg]; exact h1,vss,VRLL.mon m _ _ h2,h3⟩

section
variable {w0 w : World} {β : Nat → Option Loc} {b : Nat → Bool} {H : Heap}

/-- A draw: nothing has turned. -/
theorem Mon.drew : Mon w β b w.drew β b:=⟨Nat.le_refl _,fun _ _ h=>⟨rfl,h⟩,fun _ _ h=>h,fun _ h=>h,fun _ _ _ h=>h⟩
theorem HR.drew (h : HR w0 w β b H) : HR w0 w.drew β b H :=
  ⟨h.below.drew,fun id z es he=>by obtain ⟨l,hl,hb⟩:=h.blk id z es he; exact ⟨l,hl,hb.mon Mon.drew rfl⟩,h.dom,h.inj⟩

/-- A new block, under a new number. -/
theorem Mon.alloc (h : HR w0 w β b H) {id : Nat} (hid : b id = false) {b' : Nat → Bool} (hb' : ∀ i,b' i = (decide (i = id) || b i)) (o : Obj) (z p : Nat) :
    Mon w β b (w.alloc o) (bupd β id (some ⟨w.heap.size,p,z⟩)) b' :=
  ⟨by simp,fun g hg hn=>⟨heap_alloc_lt _ _ _ hg,fun i l hl=>by
      unfold bupd at hl
      split at hl
      · simp only [Option.some.injEq] at hl; subst hl; show w.heap.size ≠ g; omega
      · exact hn i l hl⟩,
   fun g e he=>by rw [shape_of_block (heap_alloc_lt w o g (shape_lt he))]; exact he,
   fun i hi=>by rw [hb']; simp [hi],
   fun i l hi hl=>by
      unfold bupd at hl
      rw [if_neg (by intro e; subst e; rw [hid] at hi; simp at hi)] at hl; exact hl⟩

theorem HR.alloc (h : HR w0 w β b H) {id : Nat} (hid : b id = false) {b' : Nat → Bool} (hb' : ∀ i,b' i = (decide (i = id) || b i)) (c : Array Value) (elem : TypeId) (z : Nat) (es : List (List AV)) (vss : List (List Value))
    (hv : VRLL w β b es vss) (hc : ∀ e vs,vss[e]? = some vs → vs.length = z ∧ ∀ j u,vs[j]? = some u → c[e * z + j]? = some u) :
    HR w0 (w.alloc (.cells c elem)) (bupd β id (some ⟨w.heap.size,0,z⟩)) b' (hupd H id (some (z,es))):=by
  have hm:=Mon.alloc h hid hb' (.cells c elem) z 0
  have hsz : w0.heap.size ≤ w.heap.size:=h.below.size
  refine ⟨h.below.alloc hsz _,?_,?_,?_⟩
  · intro i z' es' he
    unfold hupd at he
    split at he
    · rename_i hi
      simp only [Option.some.injEq,Prod.mk.injEq] at he
      obtain ⟨rfl,rfl⟩:=he
      refine ⟨⟨w.heap.size,0,z⟩,by simp [bupd,hi],rfl,c,elem,heap_alloc_eq _ _,vss,VRLL.mon hm _ _ hv,fun e vs hvs=>?_⟩
      simpa using hc e vs hvs
    · rename_i hi
      obtain ⟨l,hl,hb⟩:=h.blk i z' es' he
      exact ⟨l,by simp [bupd,hi,hl],hb.mon hm (heap_alloc_lt _ _ _ (h.dom i l hl).2.1)⟩
  · intro i l hl
    unfold bupd at hl
    split at hl
    · rename_i hi
      simp only [Option.some.injEq] at hl; subst hl
      exact ⟨fun _=>hsz,by simp,by rw [hb']; simp [hi]⟩
    · rename_i hi
      obtain ⟨h2,h3,h4⟩:=h.dom i l hl
      exact ⟨fun hn=>h2 (by simpa [hupd,hi] using hn),by simp; omega,by rw [hb',h4]; simp⟩
  · intro i j l l' hl hl' hg
    unfold bupd at hl hl'
    split at hl <;> split at hl' <;> rename_i hi hj
    · rw [hi,hj]
    · simp only [Option.some.injEq] at hl; subst hl
      have:=(h.dom j l' hl').2.1
      have : w.heap.size = l'.g:=hg
      omega
    · simp only [Option.some.injEq] at hl'; subst hl'
      have:=(h.dom i l hl).2.1
      have : l.g = w.heap.size:=hg
      omega
    · exact h.inj i j l l' hl hl' hg

/-- A row of one's own is written; its cells stay as many. -/
theorem Mon.setRow {id : Nat} {l : Loc} (hl : β id = some l) {old c : Array Value} {e : TypeId} (hg : w.heap[l.g]? = some (.cells old e (0,0))) (hs : c.size = old.size) :
    Mon w β b (w.setRow l.g c) β b :=
  ⟨by simp,fun g _ hn=>⟨setRow_other w l.g g c (fun he=>hn id l hl he.symm),hn⟩,
   fun g q hq=>by
     by_cases hgg : g = l.g
     · subst hgg
       unfold World.shape? at hq ⊢
       rw [setRow_heap w l.g old c e (0,0) hg]
       rw [hg] at hq
       simp only [] at hq ⊢
       rw [hs]; exact hq
     · rw [shape_of_block (setRow_other w l.g g c hgg)]; exact hq,
   fun _ h=>h,fun _ _ _ h=>h⟩

theorem HR.setRow (h : HR w0 w β b H) {id : Nat} (hH : H id ≠ none) {l : Loc} (hl : β id = some l) {old c : Array Value} {e : TypeId} (hg : w.heap[l.g]? = some (.cells old e (0,0))) (hs : c.size = old.size)
    (z : Nat) (es : List (List AV)) (vss : List (List Value)) (hz : l.z = z) (hv : VRLL w β b es vss) (hc : ∀ e vs,vss[e]? = some vs → vs.length = z ∧ ∀ j u,vs[j]? = some u → c[l.o + e * z + j]? = some u) :
    HR w0 (w.setRow l.g c) β b (hupd H id (some (z,es))):=by
  have hm : Mon w β b (w.setRow l.g c) β b:=Mon.setRow hl hg hs
  have hd:=h.dom id l hl
  refine ⟨⟨⟨h.below.os,h.below.tape,h.below.output,by simpa using h.below.size,fun k hk=>by rw [setRow_other w l.g k c (by have:=hd.1 hH; omega)]; exact h.below.block k hk⟩,h.below.drawn⟩,?_,?_,h.inj⟩
  · intro i z' es' he
    unfold hupd at he
    split at he
    · rename_i hi
      simp only [Option.some.injEq,Prod.mk.injEq] at he
      obtain ⟨rfl,rfl⟩:=he
      subst hi
      exact ⟨l,hl,hz,c,e,setRow_heap w l.g old c e (0,0) hg,vss,VRLL.mon hm _ _ hv,hc⟩
    · rename_i hi
      obtain ⟨l',hl',hb⟩:=h.blk i z' es' he
      exact ⟨l',hl',hb.mon hm (setRow_other w l.g l'.g c (fun hgg=>hi (h.inj i id l' l hl' hl hgg)))⟩
  · intro i l' hl'
    obtain ⟨h2,h3,h4⟩:=h.dom i l' hl'
    refine ⟨fun hn=>?_,by simpa using h3,h4⟩
    unfold hupd at hn
    split at hn
    · rename_i hi; subst hi; exact h2 hH
    · exact h2 hn

/-- A block is given up. -/
theorem Mon.drop (h : HR w0 w β b H) (id : Nat) : Mon w β b w (bupd β id none) b :=
  ⟨Nat.le_refl _,fun g _ hn=>⟨rfl,fun i l hl=>by
      unfold bupd at hl
      split at hl
      · simp at hl
      · exact hn i l hl⟩,fun _ _ h=>h,fun _ h=>h,fun i l _ hl=>by
      unfold bupd at hl
      split at hl
      · simp at hl
      · exact hl⟩

theorem HR.drop (h : HR w0 w β b H) (id : Nat) : HR w0 w (bupd β id none) b (hupd H id none):=by
  refine ⟨h.below,?_,?_,?_⟩
  · intro i z es he
    unfold hupd at he
    split at he
    · simp at he
    · rename_i hi
      obtain ⟨l,hl,hb⟩:=h.blk i z es he
      exact ⟨l,by simp [bupd,hi,hl],hb.mon (Mon.drop h id) rfl⟩
  · intro i l hl
    unfold bupd at hl
    split at hl
    · simp at hl
    · rename_i hi
      obtain ⟨h1,h2⟩:=h.dom i l hl
      exact ⟨fun hn=>h1 (by simpa [hupd,hi] using hn),h2⟩
  · intro i j l l' hl hl' hg
    unfold bupd at hl hl'
    split at hl
    · simp at hl
    · split at hl'
      · simp at hl'
      · exact h.inj i j l l' hl hl' hg

/-- What was written in a row of one's own, once it is given up, is no more written: it reads as it stands. -/
theorem Rds.of_block (h : HR w0 w β b H) {id : Nat} {l : Loc} (hl : β id = some l) {c : Array Value} {e : TypeId} (hg : w.heap[l.g]? = some (.cells c e (0,0))) {z : Nat} {vss : List (List Value)}
    (hc : ∀ e vs,vss[e]? = some vs → vs.length = z ∧ ∀ j u,vs[j]? = some u → c[l.o + e * z + j]? = some u) : Rds w (bupd β id none) (some ⟨l.g,l.o,none⟩) z vss :=
  fun e vs he=>⟨(hc e vs he).1,fun j u hu=>⟨l.g,l.o,rfl,by
    have:=(hc e vs he).2 j u hu
    simp only [World.cell?,hg,Option.isSome_none,Bool.false_eq_true,if_false]
    rw [← this]; congr 1; omega,fun i l' hl' hgg=>by
      unfold bupd at hl'
      split at hl'
      · simp at hl'
      · rename_i hi; exact hi (h.inj i id l' l hl' hl hgg)⟩⟩
end
end Go.Proofs.YtjbbbkfdcegfmaaGreat
