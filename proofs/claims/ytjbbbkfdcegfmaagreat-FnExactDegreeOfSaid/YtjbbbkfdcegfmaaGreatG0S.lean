/- Regions taken order by order; heaps cut back. -/
import Derived.Test.YtjbbbkfdcegfmaaGreatG0R

namespace Go.Proofs.YtjbbbkfdcegfmaaGreat
open Go Go.RowKit

section
variable {P : Program} {ops : Array Oper} {K : St → Prop} {s : St}
theorem AOPS.old {l : List Oper} (h : (∀ id q,s.heap id = some q → id < s.nx) → AOPS P ops l K s) : AOPS P ops l K s:=by
  intro w0 w β a Q hs hq
  refine h (fun id q hid=>?_) w0 w β a Q hs hq
  obtain ⟨l,hl,_⟩:=hs.hr.blk id q.1 q.2 hid
  have:=(hs.hr.dom id l hl).2.2
  simpa [bornB] using this

def swapQ (K : Act → World → Prop) (Q : Exit → Act → World → Prop) : Exit → Act → World → Prop
  | .normal,a,w=>K a w
  | e,a,w=>Q e a w
theorem letsOut_swap {K : Act → World → Prop} {Q : Exit → Act → World → Prop} (h : LetsOut (swapQ K Q)) : LetsOut Q:=h
theorem upon_swap {o : Oper} {a : Act} {K : Act → World → Prop} {Q : Exit → Act → World → Prop} {r : Result Next} (h : o.upon P a K (swapQ K Q) r) : o.upon P a K Q r:=by
  unfold Oper.upon at *
  split at h <;> try exact h
  all_goals first | exact h | exact Calls.mono h (fun e w hh=>by cases e <;> exact hh)

/-- All orders, one operation after the other. -/
def AAny (P : Program) (ops : Array Oper) (K : St → Prop) : Nat → Array Bool → St → Prop
  | 0,listed,s=>Region.ready .any ops listed = [] ∧ K s
  | fuel + 1,listed,s=>(Region.ready .any ops listed = [] → K s) ∧ ∀ i ∈ Region.ready .any ops listed,∀ o,ops[i]? = some o → AOPS P ops [o] (fun s'=>AAny P ops K fuel (listed.setIfInBounds i true) s') s

theorem AAny.go {w0 w00 : World} {β0 : Nat → Option Loc} {s0 : St} {Q : Exit → Act → World → Prop}
    (hQ : ∀ w' β' a' s',K s' → SR w0 w' β' s' a' → MonS w0 w00 β0 s0 w' β' s' → Q .normal a' w') :
    ∀ (fuel : Nat) (listed : Array Bool) (s : St) (w : World) (β : Nat → Option Loc) (a : Act),AAny P ops K fuel listed s → SR w0 w β s a → MonS w0 w00 β0 s0 w β s → wpAny P .any ops Q fuel listed a w
  | 0,listed,s,w,β,a,h,hs,hm=>⟨h.1,hQ w β a s h.2 hs hm⟩
  | fuel + 1,listed,s,w,β,a,h,hs,hm=>by
    refine ⟨fun hr=>hQ w β a s (h.1 hr) hs hm,fun i hi=>?_⟩
    cases ho : ops[i]? with
    | none=>unfold wpOp; rw [ho]; exact absurd hi (by
        unfold Region.ready
        simp [ho])
    | some o =>
      have h1:=h.2 i hi o ho w0 w β a (swapQ (fun a' w'=>wpAny P .any ops Q fuel (listed.setIfInBounds i true) a' w') Q) hs (fun w' β' a' s' k hs' hm'=>AAny.go hQ fuel _ s' w' β' a' k hs' (hm.trans hm'))
      unfold wpOp
      simp only [ho]
      unfold wpList at h1
      split at h1
      · rename_i hw
        simp only [hw,if_true]
        rcases h1 with h1 | h1
        · exact .inl (upon_swap h1)
        · exact .inr ⟨h1.1,letsOut_swap h1.2⟩
      · rename_i hw
        simp only [hw]
        exact h1
theorem AAny.step {fuel : Nat} {listed : Array Bool} (rs : List Nat) (hr : Region.ready .any ops listed = rs) (hne : rs ≠ []) (h : ∀ i ∈ rs,∀ o,ops[i]? = some o → AOPS P ops [o] (fun s'=>AAny P ops K fuel (listed.setIfInBounds i true) s') s) : AAny P ops K (fuel + 1) listed s :=
  ⟨fun e=>absurd (hr ▸ e) hne,fun i hi=>h i (hr ▸ hi)⟩
theorem AAny.done {fuel : Nat} {listed : Array Bool} (hr : Region.ready .any ops listed = []) (h : K s) : AAny P ops K fuel listed s:=by
  cases fuel with
  | zero=>exact ⟨hr,h⟩
  | succ n=>exact ⟨fun _=>h,fun i hi=>by rw [hr] at hi; simp at hi⟩
theorem AWP.any {id : Nat} {K : Exit → St → Prop} (hm : P.follows .mixedOrders = true) (h : AAny P ops (fun s'=>K .normal s') ops.size (Array.replicate ops.size false) s) : AWP P (.region id ops true) K s:=by
  intro w0 w β a Q hs hq
  refine wp_region_any hm ?_
  refine AAny.go (w00:=w) (β0:=β) (s0:=s) (w0:=w0) (fun w' β' a' s' k hs' hm'=>hq _ _ _ _ _ k hs' hm') ops.size _ s w.drew β a h ?_ ?_
  · exact ⟨hs.hr.drew,hs.defers,hs.size,fun t=>VR.mon Mon.drew _ _ (hs.env t)⟩
  · exact ⟨Mon.drew,KeepF.refl _ _⟩
end
end Go.Proofs.YtjbbbkfdcegfmaaGreat
