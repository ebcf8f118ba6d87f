/- New blocks: variables in memory, slices that are built or made. -/
import Derived.Test.YtjbbbkfdcegfmaaGreatG07

namespace Go.Proofs.YtjbbbkfdcegfmaaGreat
open Go Go.RowKit

/-- The elements' cells lie one behind the other. -/
def LaidZ (c : Array Value) (z : Nat) (vss : List (List Value)) : Prop:=∀ e vs,vss[e]? = some vs → vs.length = z ∧ ∀ j u,vs[j]? = some u → c[e * z + j]? = some u

theorem flat_get {α : Type} {z : Nat} : ∀ (es : List (List α)),(∀ c ∈ es,c.length = z) → ∀ e c j,es[e]? = some c → j < z → es.flatten[e * z + j]? = c[j]?
  | [],_,e,c,j,he,_=>by simp at he
  | x :: es,h,0,c,j,he,hj=>by
    simp only [List.getElem?_cons_zero,Option.some.injEq] at he; subst he
    rw [List.flatten_cons,Nat.zero_mul,Nat.zero_add,List.getElem?_append_left (by rw [h x (by simp)]; exact hj)]
  | x :: es,h,e + 1,c,j,he,hj=>by
    have hx:=h x (by simp)
    rw [List.flatten_cons,List.getElem?_append_right (by rw [hx,Nat.add_mul]; omega),hx]
    have:=flat_get es (fun c hc=>h c (by simp [hc])) e c j (by simpa using he) hj
    rw [← this]; congr 1; rw [Nat.add_mul]; omega

theorem flat_len {α : Type} {z : Nat} : ∀ (es : List (List α)),(∀ c ∈ es,c.length = z) → es.flatten.length = es.length * z
  | [],_=>by simp
  | x :: es,h=>by rw [List.flatten_cons,List.length_append,flat_len es (fun c hc=>h c (by simp [hc])),h x (by simp),List.length_cons,Nat.add_mul]; omega

theorem splice_flat {α : Type} {z : Nat} : ∀ (es : List (List α)) (i : Nat) (c : List α),(∀ c ∈ es,c.length = z) → c.length = z → i < es.length → splice es.flatten (i * z) c = (es.set i c).flatten
  | [],i,c,_,_,hi=>by simp at hi
  | x :: es,0,c,h,hc,_=>by
    have hx:=h x (by simp)
    simp only [splice,Nat.zero_mul,List.take_zero,List.nil_append,Nat.zero_add,List.set_cons_zero,List.flatten_cons]
    rw [List.drop_append,hc,← hx]; simp
  | x :: es,i + 1,c,h,hc,hi=>by
    have hx:=h x (by simp)
    have ih:=splice_flat es i c (fun c hc=>h c (by simp [hc])) hc (by simpa using hi)
    simp only [List.set_cons_succ,List.flatten_cons]
    rw [← ih]
    unfold splice
    have e1 : (i + 1) * z = x.length + i * z:=by rw [Nat.add_mul,hx]; omega
    rw [e1,List.take_append,List.drop_append]
    have e2 : x.length + i * z - x.length = i * z:=by omega
    have e3 : x.length + i * z + c.length - x.length = i * z + c.length:=by omega
    rw [e2,e3,List.take_of_length_le (by omega),List.drop_of_length_le (show x.length ≤ x.length + i * z + c.length by omega)]
    simp

theorem unflat {w : World} {β : Nat → Option Loc} {b : Nat → Bool} : ∀ (es : List (List AV)) (vs : List Value),VRL w β b es.flatten vs → ∃ vss,VRLL w β b es vss ∧ vss.flatten = vs ∧ vss.map List.length = es.map List.length
  | [],vs,h=>⟨[],rfl,by rw [show vs = [] from h]; rfl,rfl⟩
  | x :: es,vs,h=>by
    rw [List.flatten_cons] at h
    have hl:=VRL.length _ _ h
    have h1:=VRL.take x.length _ _ h
    have h2:=VRL.drop x.length _ _ h
    rw [List.take_left] at h1
    rw [List.drop_left] at h2
    obtain ⟨vss,e1,e2,e3⟩:=unflat es _ h2
    refine ⟨vs.take x.length :: vss,⟨_,_,rfl,h1,e1⟩,by rw [List.flatten_cons,e2,List.take_append_drop],?_⟩
    simp only [List.map_cons,e3,List.length_take]
    congr 1
    rw [hl,List.length_append]; omega

theorem laid_of_flat {z : Nat} {vss : List (List Value)} {c : Array Value} (h : ∀ v ∈ vss,v.length = z) (hc : c.toList.take vss.flatten.length = vss.flatten) : LaidZ c z vss:=by
  intro e vs he
  have hz:=h vs (List.mem_of_getElem? he)
  refine ⟨hz,fun j u hu=>?_⟩
  have hj : j < vs.length:=by
    rcases Nat.lt_or_ge j vs.length with h' | h'
    · exact h'
    · rw [List.getElem?_eq_none h'] at hu; simp at hu
  have:=flat_get vss h e vs j he (by omega)
  rw [hu,← hc,List.getElem?_take] at this
  split at this
  · simpa using this
  · simp at this

/-- Elements laid over elements. -/
def aSets (z : Nat) (es : List (List AV)) : List (Nat × AV) → Option (List (List AV))
  | []=>some es
  | (i,x) :: rest=>match avCells x with
    | some cs=>if cs.length = z ∧ i < es.length then aSets z (es.set i cs) rest else none
    | none=>none

theorem aSets_fill {z : Nat} : ∀ (ps : List (Nat × AV)) (es r : List (List AV)),(∀ c ∈ es,c.length = z) → aSets z es ps = some r → aFill (fun i=>some (i * z,z)) es.flatten ps = some r.flatten ∧ (∀ c ∈ r,c.length = z) ∧ r.length = es.length
  | [],es,r,hz,h=>by simp only [aSets,Option.some.injEq] at h; subst h; exact ⟨rfl,hz,rfl⟩
  | (i,x) :: ps,es,r,hz,h=>by
    unfold aSets at h
    split at h
    · rename_i cs hcs
      split at h
      · rename_i hc
        obtain ⟨h1,h2⟩:=hc
        have hz' : ∀ c ∈ es.set i cs,c.length = z:=by
          intro c hc
          rcases List.mem_or_eq_of_mem_set hc with h' | h'
          · exact hz c h'
          · rw [h',h1]
        obtain ⟨e1,e2,e3⟩:=aSets_fill ps (es.set i cs) r hz' h
        refine ⟨?_,e2,by rw [e3,List.length_set]⟩
        unfold aFill
        simp only [hcs]
        rw [if_pos ⟨h1,by rw [flat_len es hz]; have:=Nat.mul_le_mul_right z (show i + 1 ≤ es.length by omega); rw [Nat.add_mul] at this; omega⟩,splice_flat es i cs hz h1 h2]
        exact e1
      · simp at h
    · simp at h

/-- An operation that makes a block: its value (the block's number is id), an element's cells, the elements. -/
def opNew (P : Program) (e : Nat → AV) (id : Nat) (op : Op) : Option (AV × Nat × List (List AV)) :=
  match op with
  | .alloc t=>match zOf P t with
    | some zs=>some (.ptr id 0 0,zs.length,[zs])
    | none=>none
  | .box _ x=>match avCells (ev e x) with
    | some cs=>some (.ptr id 0 0,cs.length,[cs])
    | none=>none
  | .buildSlice t len ps=>match elOf P t with
    | some el=>match szOf P el,zOf P el with
      | some n,some zs=>if zs.length = n ∧ n ≠ 0 ∧ len * n ≤ 16777216 then (match aSets n (List.replicate len zs) (evs e ps.toList) with
        | some es=>some (.osl id 0 len,n,es)
        | none=>none) else none
      | _,_=>none
    | none=>none
  | .makeSlice t l c=>match elOf P t,ev e l,ev e c with
    | some el,.int _ l,.int _ c=>match szOf P el,byOf P el,zOf P el with
      | some n,some y,some zs=>if zs.length = n ∧ 0 ≤ l ∧ l ≤ c ∧ (y : Int) * c ≤ 281474976710656 ∧ c ≤ 9223372036854775807 then some (.osl id 0 l.toNat,n,List.replicate l.toNat zs) else none
      | _,_,_=>none
    | _,_,_=>none
  | _=>none

theorem VRLL.replicate {w : World} {β : Nat → Option Loc} {b : Nat → Bool} {c : List AV} {v : List Value} (h : VRL w β b c v) : ∀ n,VRLL w β b (List.replicate n c) (List.replicate n v)
  | 0=>rfl
  | n + 1=>⟨v,_,rfl,h,VRLL.replicate h n⟩

theorem VRL.flat {w : World} {β : Nat → Option Loc} {b : Nat → Bool} : ∀ (es : List (List AV)) (vss : List (List Value)),VRLL w β b es vss → VRL w β b es.flatten vss.flatten
  | [],_,h=>by rw [show _ = [] from h]; rfl
  | _ :: es,_,⟨v,r,e,h1,h2⟩=>by rw [e]; exact VRL.append _ _ _ _ h1 (VRL.flat es r h2)

theorem VRLL.lens {w : World} {β : Nat → Option Loc} {b : Nat → Bool} {z : Nat} : ∀ (es : List (List AV)) (vss : List (List Value)),VRLL w β b es vss → (∀ c ∈ es,c.length = z) → ∀ v ∈ vss,v.length = z
  | [],_,h,_=>by rw [show _ = [] from h]; simp
  | x :: es,_,⟨v,r,e,h1,h2⟩,hz=>by
    rw [e]
    intro u hu
    rcases List.mem_cons.mp hu with rfl | hu
    · rw [VRL.length _ _ h1]; exact hz x (by simp)
    · exact VRLL.lens es r h2 (fun c hc=>hz c (by simp [hc])) u hu

theorem range_map_get (z : List Value) (n k : Nat) (hz : z.length ≠ 0) (hk : k < n) : (((Array.range n).map (z.toArray[· % z.toArray.size]!)))[k]? = z[k % z.length]?:=by
  have hlt : k % z.length < z.length:=Nat.mod_lt _ (by omega)
  simp [hk,hlt]

theorem made_laid (z : List Value) (len cap : Nat) (hz : z.length ≠ 0) (h : len ≤ cap) : LaidZ ((Array.range (cap * z.length)).map (z.toArray[· % z.toArray.size]!)) z.length (List.replicate len z):=by
  intro e vs he
  rw [List.getElem?_replicate] at he
  split at he
  · rename_i hlt
    simp only [Option.some.injEq] at he; subst he
    refine ⟨rfl,fun j u hu=>?_⟩
    have hj : j < z.length:=by
      rcases Nat.lt_or_ge j z.length with h' | h'
      · exact h'
      · rw [List.getElem?_eq_none h'] at hu; simp at hu
    have hk : e * z.length + j < cap * z.length:=by
      have:=Nat.mul_le_mul_right z.length (show e + 1 ≤ cap by omega)
      rw [Nat.add_mul] at this; omega
    rw [range_map_get z _ _ hz hk,Nat.mul_add_mod_of_lt' hj]
    exact hu
  · simp at he
where
  Nat.mul_add_mod_of_lt' {e m j : Nat} (hj : j < m) : (e * m + j) % m = j:=by
    rw [Nat.add_comm,Nat.add_mul_mod_self_right,Nat.mod_eq_of_lt hj]
end Go.Proofs.YtjbbbkfdcegfmaaGreat
