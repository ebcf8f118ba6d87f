/- Drawing regions whose stores do not wait for all that stands ahead of them. -/
import Derived.Test.YtjbbbkfdcegfmaaGreatG0P

namespace Go.Proofs.YtjbbbkfdcegfmaaGreat
open Go Go.RowKit

section
variable {P : Program} {ops : Array Oper} {s : St}
/-- Numbers of blocks are old. -/
theorem AWP.old {c : Code} {K : Exit → St → Prop} (h : (∀ id q,s.heap id = some q → id < s.nx) → AWP P c K s) : AWP P c K s:=by
  intro w0 w β a Q hs hq
  refine h (fun id q hid=>?_) w0 w β a Q hs hq
  obtain ⟨l,hl,_⟩:=hs.hr.blk id q.1 q.2 hid
  have:=(hs.hr.dom id l hl).2.2
  simpa [bornB] using this
theorem DP.runF1q {o : Oper} {r : List Oper} {i : Nat} {e : Nat → AV} {H : Heap} {t' : St} {KK : (Nat → AV) → Heap → List Ef → Prop} (h1 : runF1 P ops [o] i { s with env:=e,heap:=H } = some t')
    (h : ∀ f : Ef,f.q = qids e o → DP P ops s r (i + 1) t'.env t'.heap fun e'' H'' g=>KK e'' H'' (f :: g)) : DP P ops s (o :: r) i e H KK:=by
  obtain ⟨f,hD,hd,hK⟩:=DP.runF (s:=s) (K:=fun e' H' l=>e' = t'.env ∧ H' = t'.heap) [o] i { s with env:=e,heap:=H } t' rfl rfl h1 (fun _ _ _ _=>⟨rfl,rfl⟩)
  have hK' : updo e o.dst f.v = t'.env ∧ hupo H f.blk = t'.heap:=hK
  refine ⟨f,hD,hd,?_⟩
  rw [hK'.1,hK'.2]
  exact h f hD.blk.2
theorem HC.mix {nx : Nat} {o : Oper} {id : Nat} : ∀ (l : List Ef) (j : Nat),(∀ k f,l[k]? = some f → (pre o).contains (j + k) = true ∨ (f.q = [] ∧ id ≠ nx + (j + k))) → HC nx (pre o) id l j
  | [],_,_=>trivial
  | f :: r,j,h=>by
    refine ⟨?_,HC.mix r (j + 1) fun k g hg=>?_⟩
    · rcases h 0 f (by simp) with h1 | h1
      · exact .inl h1
      · exact .inr ⟨by rw [h1.1]; simp,h1.2⟩
    · have:=h (k + 1) g (by simpa using hg)
      rw [show j + 1 + k = j + (k + 1) by omega]; exact this
theorem opSto1_dom {t : St} {op : Op} {id z : Nat} {es : List (List AV)} (h : opSto1 P t op = some (id,z,es)) : ∃ q,t.heap id = some q:=by
  cases op <;> simp only [opSto1,reduceCtorEq] at h
  case store ty x y =>
    split at h
    · rename_i i e off hx
      split at h
      · rename_i z' es' cs hz hc
        split at h
        · split at h
          · simp only [Option.some.injEq,Prod.mk.injEq] at h
            exact ⟨_,by rw [← h.1]; exact hz⟩
          · simp at h
        · simp at h
      · simp at h
    · simp at h
theorem DQ.runG {l : List Ef} {K : St → Prop} {m : Nat} (ex : List Nat) (hl : l.length ≤ m) (hq : ∀ k f,l[k]? = some f → k ∈ ex → f.q = []) : ∀ (os : List Oper) (t t' : St),(∀ id q,t.heap id = some q → ∀ j ∈ ex,id ≠ s.nx + j) →
    (os.all fun o=>isAsg o.op || (List.range m).all fun j=>(pre o).contains j || ex.contains j) = true → t.nt = s.nt → runF2 P os t = some t' → K t' → DQ P ops s l os t K
  | [],t,t',_,_,_,h,k=>by simp only [runF2,Option.some.injEq] at h; subst h; exact k
  | o :: r,t,t',hid,hf,hn,h,k=>by
    simp only [List.all_cons,Bool.and_eq_true] at hf
    unfold runF2 at h
    split at h
    · rename_i x ho
      split at h
      · rename_i hd
        rw [puts_updo'] at h
        refine ⟨_,.asg x ho,?_,DQ.runG ex hl hq r _ t' hid hf.2 hn h k⟩
        cases hdd : o.dst with
        | none=>rfl
        | some d=>rw [hdd] at hd; simpa [dstOk,hn] using hd
      · simp at h
    · split at h
      · rename_i id z es hs
        split at h
        · rename_i hd
          have hna : isAsg o.op = false:=by
            cases hop : o.op <;> first | rfl | (rw [hop] at hs; simp [opSto1] at hs)
          obtain ⟨q0,hq0⟩:=opSto1_dom hs
          have hf1 : ((List.range m).all fun j=>(pre o).contains j || ex.contains j) = true:=by simpa [hna] using hf.1
          refine ⟨_,.sto (pre o) id z es hd hs (fun _ _ h=>h) (HC.mix l 0 fun k f hk=>?_),by rw [hd]; rfl,?_⟩
          · rw [Nat.zero_add]
            have hkl : k < l.length:=by
              rcases Nat.lt_or_ge k l.length with h' | h'
              · exact h'
              · rw [List.getElem?_eq_none h'] at hk; simp at hk
            have:=List.all_eq_true.mp hf1 k (List.mem_range.mpr (by omega))
            simp only [Bool.or_eq_true] at this
            rcases this with h1 | h1
            · exact .inl h1
            · have hex : k ∈ ex:=by simpa using h1
              exact .inr ⟨hq k f hk hex,hid id q0 hq0 k hex⟩
          · have:=DQ.runG ex hl hq r { t with heap:=hupd t.heap id (some (z,es)) } t' (fun i q hi j hj=>by
              simp only [hupd] at hi
              split at hi
              · rename_i e; subst e; exact hid i q0 hq0 j hj
              · exact hid i q hi j hj) hf.2 hn h k
            rw [hd]; exact this
        · simp at h
      · simp at h
theorem HC.mixB {nx m : Nat} {pl : List Nat} {id : Nat} {l : List Ef} (ex : List Nat) (hl : l.length ≤ m) (hb : ((List.range m).all fun j=>pl.contains j || ex.contains j) = true) (hx : ∀ k f,l[k]? = some f → k ∈ ex → id ∉ f.q ∧ id ≠ nx + k) : HC nx pl id l 0:=by
  have key : ∀ (l : List Ef) (j : Nat),(∀ k f,l[k]? = some f → pl.contains (j + k) = true ∨ (id ∉ f.q ∧ id ≠ nx + (j + k))) → HC nx pl id l j:=by
    intro l
    induction l with
    | nil=>intro _ _; trivial
    | cons f r ih =>
      intro j h
      refine ⟨?_,ih (j + 1) fun k g hg=>?_⟩
      · exact h 0 f (by simp)
      · have:=h (k + 1) g (by simpa using hg)
        rw [show j + 1 + k = j + (k + 1) by omega]; exact this
  refine key l 0 fun k f hk=>?_
  rw [Nat.zero_add]
  have hkl : k < l.length:=by
    rcases Nat.lt_or_ge k l.length with h' | h'
    · exact h'
    · rw [List.getElem?_eq_none h'] at hk; simp at hk
  have:=List.all_eq_true.mp hb k (List.mem_range.mpr (by omega))
  simp only [Bool.or_eq_true] at this
  rcases this with h1 | h1
  · exact .inl h1
  · exact .inr (hx k f hk (by simpa using h1))
theorem DQ.sto1 {l : List Ef} {o : Oper} {r : List Oper} {t : St} {K : St → Prop} {m : Nat} (ex : List Nat) (x : Nat × Nat × List (List AV)) (h1 : opSto1 P t o.op = some x) (hd : o.dst = none) (hl : l.length ≤ m) (hb : ((List.range m).all fun j=>(pre o).contains j || ex.contains j) = true)
    (hx : ∀ k f,l[k]? = some f → k ∈ ex → x.1 ∉ f.q ∧ x.1 ≠ s.nx + k) (h : DQ P ops s l r { t with heap:=hupd t.heap x.1 (some x.2) } K) : DQ P ops s l (o :: r) t K:=by
  obtain ⟨id,z,es⟩:=x
  refine ⟨_,.sto (pre o) id z es hd h1 (fun _ _ h=>h) (HC.mixB ex hl hb hx),by rw [hd]; rfl,?_⟩
  rw [hd]; exact h
theorem DQ.asg1 {l : List Ef} {o : Oper} {r : List Oper} {t : St} {K : St → Prop} (x : Operand) (ho : o.op = .assign x) (hd : dstOk s o.dst = true) (h : DQ P ops s l r { t with env:=updo t.env o.dst (ev t.env x) } K) : DQ P ops s l (o :: r) t K :=
  ⟨_,.asg x ho,hd,h⟩
/-- What a slot is told of may be told more weakly. -/
theorem AWP.weakE {c : Code} {K : Exit → St → Prop} (d : Nat) (x : AV) (hw : ∀ w β b v,VR w β b (s.env d) v → VR w β b x v) (h : AWP P c K { s with env:=upd s.env d x }) : AWP P c K s:=by
  intro w0 w β a Q hs hq
  refine h w0 w β a Q ⟨hs.hr,hs.defers,hs.size,fun t=>?_⟩ hq
  show VR w β (bornB s.nx) (upd s.env d x t) _
  by_cases ht : t = d
  · subst ht
    have:=hw _ _ _ _ (hs.env t)
    simpa [upd] using this
  · simpa [upd,ht] using hs.env t
end
end Go.Proofs.YtjbbbkfdcegfmaaGreat
