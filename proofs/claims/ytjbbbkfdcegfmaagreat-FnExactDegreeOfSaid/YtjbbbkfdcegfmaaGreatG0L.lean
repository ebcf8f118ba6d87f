/- Appends to slices of one's own. -/
import Derived.Test.YtjbbbkfdcegfmaaGreatG0K

namespace Go.Proofs.YtjbbbkfdcegfmaaGreat
open Go Go.RowKit

theorem flat_idx {α : Type} {z : Nat} : ∀ (vss : List (List α)),(∀ v ∈ vss,v.length = z) → ∀ k u,vss.flatten[k]? = some u → ∃ e vs j,vss[e]? = some vs ∧ vs[j]? = some u ∧ k = e * z + j
  | [],_,k,u,h=>by simp at h
  | x :: r,hz,k,u,h=>by
    have hx:=hz x (by simp)
    rw [List.flatten_cons] at h
    by_cases hk : k < x.length
    · rw [List.getElem?_append_left hk] at h
      exact ⟨0,x,k,rfl,h,by omega⟩
    · rw [List.getElem?_append_right (by omega)] at h
      obtain ⟨e,vs,j,h1,h2,h3⟩:=flat_idx r (fun v hv=>hz v (by simp [hv])) _ u h
      exact ⟨e + 1,vs,j,by simpa using h1,h2,by rw [Nat.add_mul]; omega⟩

/-- The elements that are appended. -/
def aSrc (P : Program) (s : St) (t1 el : TypeId) (x : AV) : Option (List (List AV)) :=
  match x with
  | .isl es=>if (elOf P t1).isSome then some es else none
  | .osl id st m=>match s.heap id with
    | some (z,es)=>if st + m ≤ es.length ∧ (elOf P t1).isSome ∧ szOf P el = some z then some ((es.drop st).take m) else none
    | none=>none
  | .nsl=>if (elOf P t1).isSome then some [] else none
  | .int _ m=>match P.underlying t1,szOf P el,byOf P el,zOf P el with
    | some (.int _),some n,some y,some zs=>if 0 < m ∧ m ≤ 9223372036854775807 ∧ m.toNat * y ≤ 281474976710656 ∧ n ≠ 0 ∧ zs.length = n then some (List.replicate m.toNat zs) else none
    | _,_,_,_=>none
  | _=>none

/-- Elements of one's own are read where they lie. -/
theorem own_cells {w : World} {β : Nat → Option Loc} {b : Nat → Bool} {l : Loc} {z st m cap : Nat} {es : List (List AV)} (hb : BR w β b l z es) {a : Option Addr} (hm : m ≤ cap) (hz : z ≠ 0) (hst : st + m ≤ es.length)
    (ha : cap = 0 ∨ (a = some ⟨l.g,l.o + st * l.z,none⟩ ∧ ∃ e k,w.shape? l.g = some (e,k) ∧ l.o + (st + cap) * l.z ≤ k)) :
    ∃ vss,VRLL w β b ((es.drop st).take m) vss ∧ (∀ v ∈ vss,v.length = z) ∧ ∀ j u,vss.flatten[j]? = some u → ∃ a',a = some a' ∧ w.cell? (a'.add j) = some u:=by
  obtain ⟨hz',c,elem,hg,vss,hv,hc⟩:=hb
  have hlen:=VRLL.length _ _ hv
  have hlz : ∀ v ∈ (vss.drop st).take m,v.length = z:=fun v hv=>by
    obtain ⟨k,hk⟩:=List.mem_iff_getElem?.mp (List.mem_of_mem_take hv)
    rw [List.getElem?_drop] at hk
    exact (hc _ _ hk).1
  refine ⟨(vss.drop st).take m,VRLL.take _ _ _ (VRLL.drop _ _ _ hv),hlz,fun j u hu=>?_⟩
  obtain ⟨e,vs,k,h1,h2,h3⟩:=flat_idx _ hlz j u hu
  rw [List.getElem?_take] at h1
  split at h1
  · rename_i hem
    rw [List.getElem?_drop] at h1
    have hcell:=(hc _ _ h1).2 k u h2
    rcases ha with ha | ⟨ha,_⟩
    · omega
    · refine ⟨_,ha,?_⟩
      rw [add_off]
      simp only [World.cell?,hg,Option.isSome_none,Bool.false_eq_true,if_false]
      rw [← hcell]; congr 1
      rw [hz',h3,Nat.add_mul]; omega
  · simp at h1

section
variable {P : Program} {w0 w : World} {β : Nat → Option Loc} {b : Nat → Bool} {s : St} {a : Act}

theorem aSrc_ok (hs : SRb w0 w β b s a) {t1 el : TypeId} {x : AV} {v : Value} (hx : VR w β b x v) {src : List (List AV)} (h : aSrc P s t1 el x = some src) {i : TypeInfo} {zv : Value} {zs : List AV} (hi : P.info? el = some i) (hz : i.zero = some zv)
    (hzs : zOf P el = some zs) (hzv : VRL w β b zs zv.cells.toList) (h0 : i.size ≠ 0) (hall : ∀ c ∈ src,c.length = i.size) : ∃ vss,Src P w i zv t1 v src.length vss.flatten ∧ VRLL w β b src vss ∧ ∀ v ∈ vss,v.length = i.size:=by
  cases x <;> simp only [aSrc,reduceCtorEq] at h
  case isl es =>
    split at h
    · rename_i hel
      simp only [Option.some.injEq] at h; subst h
      obtain ⟨e,he⟩:=Option.isSome_iff_exists.mp hel
      obtain ⟨a',cap,z,vss,hv,hcap,hvl,hr⟩:=hx
      have hlz:=VRLL.lens _ _ hvl hall
      refine ⟨vss,.sl a' cap e hv (elOf_under he) (by rw [flat_len _ hlz,VRLL.length _ _ hvl]) fun j u hu=>?_,hvl,hlz⟩
      obtain ⟨e',vs,k,h1,h2,h3⟩:=flat_idx _ hlz j u hu
      obtain ⟨hzl,hrd⟩:=hr e' vs h1
      obtain ⟨g,o,ha,hcell,_⟩:=hrd k u h2
      refine ⟨_,ha,?_⟩
      rw [add_off,← hcell,h3,← hzl,hlz vs (List.mem_of_getElem? h1)]
    · simp at h
  case osl id st m =>
    split at h
    · rename_i z es hH
      split at h
      · rename_i hc
        obtain ⟨c1,c2,c3⟩:=hc
        simp only [Option.some.injEq] at h; subst h
        obtain ⟨e,he⟩:=Option.isSome_iff_exists.mp c2
        obtain ⟨l,hl,hb⟩:=hs.hr.blk id z es hH
        obtain ⟨a',cap,hv,hcap,hor⟩:=hx.2.2 l hl
        have hsz : i.size = z:=by
          unfold szOf at c3
          rw [hi] at c3; simpa using c3
        obtain ⟨vss,k1,k2,k3⟩:=own_cells hb (a:=a') hcap (by omega) c1 hor
        have hlen : ((es.drop st).take m).length = m:=by simp; omega
        rw [hlen]
        refine ⟨vss,.sl a' cap e hv (elOf_under he) ?_ k3,k1,fun v hv=>by rw [k2 v hv,hsz]⟩
        rw [flat_len _ k2,VRLL.length _ _ k1,hlen,hsz]
      · simp at h
    · simp at h
  case nsl =>
    split at h
    · rename_i hel
      simp only [Option.some.injEq] at h; subst h
      obtain ⟨e,he⟩:=Option.isSome_iff_exists.mp hel
      have hv : v = .slice none 0 0:=hx
      exact ⟨[],.sl none 0 e hv (elOf_under he) (by simp) (by simp),rfl,by simp⟩
    · simp at h
  case int k m =>
    split at h
    · rename_i k' n' y' zs' hu hn' hy' hzs'
      obtain ⟨i',hi',rfl,rfl⟩:=info_of hn' hy'
      rw [hi] at hi'; simp only [Option.some.injEq] at hi'; subst hi'
      rw [hzs] at hzs'; simp only [Option.some.injEq] at hzs'; subst hzs'
      split at h
      · rename_i hc
        obtain ⟨c1,c2,c3,c4,c5⟩:=hc
        simp only [Option.some.injEq] at h; subst h
        have hv : v = .int k m:=hx
        have hzl : zv.cells.toList.length = i.size:=by rw [VRL.length _ _ hzv,c5]
        have hflat : (Builtin.zeroCells zv.cells m.toNat).toList = (List.replicate m.toNat zv.cells.toList).flatten:=by
          apply List.ext_getElem?
          intro k
          have hsz : zv.cells.size = i.size:=by simpa using hzl
          by_cases hk : k < m.toNat * i.size
          · have hq : k / i.size < m.toNat:=by rw [Nat.div_lt_iff_lt_mul (by omega)]; exact hk
            have:=flat_get (z:=i.size) (List.replicate m.toNat zv.cells.toList) (fun c hc=>by rw [(List.mem_replicate.mp hc).2]; exact hzl) (k / i.size) zv.cells.toList (k % i.size) (by rw [List.getElem?_replicate,if_pos hq]) (Nat.mod_lt _ (by omega))
            rw [Nat.div_add_mod'] at this
            rw [this]
            have r:=range_map_get zv.cells.toList (m.toNat * i.size) k (by omega) hk
            simp only [Array.toArray_toList] at r
            unfold Builtin.zeroCells
            rw [Array.getElem?_toList,hsz]
            rw [hsz,hzl] at r
            exact r
          · rw [List.getElem?_eq_none,List.getElem?_eq_none]
            · rw [flat_len (z:=i.size) _ (fun c hc=>by rw [(List.mem_replicate.mp hc).2]; exact hzl)]
              simp; omega
            · simp [size_zeroCells,hsz]; omega
        refine ⟨List.replicate m.toNat zv.cells.toList,?_,VRLL.replicate hzv _,fun v hv=>by rw [(List.mem_replicate.mp hv).2]; exact hzl⟩
        rw [List.length_replicate]
        refine .zs k k' (by rw [hv]; congr 1; omega) hu (by omega) c3 hflat.symm ?_
        have : 0 < m.toNat:=by omega
        exact Nat.mul_ne_zero (by omega) c4
      · simp at h
    · simp at h

/-- An append: which block is given up, an element's cells, the elements. -/
def opApp (P : Program) (s : St) (op : Op) : Option (Option Nat × Nat × List (List AV)) :=
  match op with
  | .call c=>match c.callee,c.args.toList,c.argTypes.toList with
    | .builtin .append,[x,y],[t,t1]=>match elOf P t with
      | some el=>match szOf P el,byOf P el,zOf P el,aSrc P s t1 el (ev s.env y) with
        | some sz,some by',some zs,some src=>if zs.length = sz ∧ sz ≠ 0 ∧ (∀ c ∈ src,c.length = sz ∧ c.all avOne = true) then
          (match ev s.env x with
            | .osl id st n=>match s.heap id with
              | some (z,es)=>if z = sz ∧ st + n ≤ es.length ∧ (n + src.length) * by' ≤ 140737488355328 ∧ n + src.length ≤ 9223372036854775807 then some (some id,z,(es.drop st).take n ++ src) else none
              | none=>none
            | .nsl=>if src ≠ [] ∧ src.length * by' ≤ 140737488355328 ∧ src.length ≤ 9223372036854775807 then some (none,sz,src) else none
            | _=>none) else none
        | _,_,_,_=>none
      | none=>none
    | _,_,_=>none
  | _=>none

def hdrop (H : Heap) : Option Nat → Heap
  | some id=>hupd H id none
  | none=>H

/-- A block under a new number, from an element on. -/
theorem HR.move {H : Heap} (h : HR w0 w β b H) {id z : Nat} {es : List (List AV)} (hH : H id = some (z,es)) {l : Loc} (hl : β id = some l) {nx : Nat} (hn : b nx = false) {b' : Nat → Bool} (hb' : ∀ i,b' i = (decide (i = nx) || b i)) (st : Nat) :
    HR w0 w (bupd (bupd β id none) nx (some ⟨l.g,l.o + st * l.z,l.z⟩)) b' (hupd (hupd H id none) nx (some (z,es.drop st))) ∧ Mon w β b w (bupd (bupd β id none) nx (some ⟨l.g,l.o + st * l.z,l.z⟩)) b':=by
  have hne : id ≠ nx:=by intro e; subst e; have:=(h.dom _ l hl).2.2; rw [hn] at this; simp at this
  have hm : Mon w β b w (bupd (bupd β id none) nx (some ⟨l.g,l.o + st * l.z,l.z⟩)) b' :=
    ⟨Nat.le_refl _,fun g _ hno=>⟨rfl,fun i l' hl'=>by
        unfold bupd at hl'
        split at hl'
        · simp only [Option.some.injEq] at hl'; subst hl'; exact hno id l hl
        · split at hl'
          · simp at hl'
          · exact hno i l' hl'⟩,fun _ _ h=>h,fun i hi=>by rw [hb',hi]; simp,fun i l' hi hl'=>by
        unfold bupd at hl'
        rw [if_neg (by intro e; subst e; rw [hn] at hi; simp at hi)] at hl'
        split at hl'
        · simp at hl'
        · exact hl'⟩
  refine ⟨⟨h.below,?_,?_,?_⟩,hm⟩
  · intro i z' es' he
    unfold hupd at he
    split at he
    · rename_i hi
      simp only [Option.some.injEq,Prod.mk.injEq] at he
      obtain ⟨rfl,rfl⟩:=he
      obtain ⟨l2,hl2,hz,c,e,hg,vss,hv,hc⟩:=h.blk id z es hH
      rw [hl] at hl2; simp only [Option.some.injEq] at hl2; subst hl2
      refine ⟨⟨l.g,l.o + st * l.z,l.z⟩,by simp [bupd,hi],hz,c,e,hg,vss.drop st,VRLL.mon hm _ _ (VRLL.drop _ _ _ hv),fun e' vs he'=>?_⟩
      rw [List.getElem?_drop] at he'
      obtain ⟨h1,h2⟩:=hc _ _ he'
      refine ⟨h1,fun j u hu=>?_⟩
      rw [← h2 j u hu]; congr 1
      simp only []
      rw [hz,Nat.add_mul]; omega
    · rename_i hi
      split at he
      · simp at he
      · rename_i hi2
        obtain ⟨l',hl',hb⟩:=h.blk i z' es' he
        exact ⟨l',by simp [bupd,hi,hi2,hl'],hb.mon hm rfl⟩
  · intro i l' hl'
    unfold bupd at hl'
    split at hl'
    · rename_i hi
      simp only [Option.some.injEq] at hl'; subst hl'
      obtain ⟨h1,h2,h3⟩:=h.dom id l hl
      exact ⟨fun _=>h1 (by rw [hH]; simp),h2,by rw [hb']; simp [hi]⟩
    · rename_i hi
      split at hl'
      · simp at hl'
      · rename_i hi2
        obtain ⟨h1,h2,h3⟩:=h.dom i l' hl'
        exact ⟨fun hn=>h1 (by simpa [hupd,hi,hi2] using hn),h2,by rw [hb',h3]; simp⟩
  · intro i j li lj hi hj hg
    unfold bupd at hi hj
    split at hi
    · rename_i ei
      simp only [Option.some.injEq] at hi; subst hi
      split at hj
      · rename_i ej; rw [ei,ej]
      · split at hj
        · simp at hj
        · rename_i ej; exact absurd (h.inj id j l lj hl hj hg).symm ej
    · split at hi
      · simp at hi
      · rename_i ei2
        split at hj
        · simp only [Option.some.injEq] at hj; subst hj
          exact absurd (h.inj i id li l hi hl hg) ei2
        · split at hj
          · simp at hj
          · exact h.inj i j li lj hi hj hg

theorem KeepF.move {H : Heap} (h : HR w0 w β b H) {id : Nat} (hH : H id ≠ none) {nx : Nat} (hn : b nx = false) (l : Loc) : KeepF w0 β (bupd (bupd β id none) nx (some l)):=by
  intro i l' hl' hg
  have h1 : i ≠ nx:=by intro e; subst e; have:=(h.dom _ l' hl').2.2; rw [hn] at this; simp at this
  have h2 : i ≠ id:=by intro e; subst e; have:=(h.dom _ l' hl').1 hH; omega
  simp [bupd,h1,h2,hl']
end
end Go.Proofs.YtjbbbkfdcegfmaaGreat
