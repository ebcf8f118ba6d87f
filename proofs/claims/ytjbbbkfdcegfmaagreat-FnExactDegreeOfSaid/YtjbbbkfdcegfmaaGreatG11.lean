/- A region with a map in any order, by what holds of the operations that are done. -/
import Derived.Test.YtjbbbkfdcegfmaaGreatG0Z

namespace Go.Proofs.YtjbbbkfdcegfmaaGreat
open Go Go.RowKit
section
variable {α : Type} {ok : α → Prop} {kv : α → AV} {P : Program} {ops : Array Oper} {l : List Oper} {s : St} {M : MS α}
def MAny (ok : α → Prop) (kv : α → AV) (P : Program) (ops : Array Oper) (K : St → MS α → Prop) : Nat → Array Bool → St → MS α → Prop
  | 0,listed,s,M=>Region.ready .any ops listed = [] ∧ K s M
  | fuel + 1,listed,s,M=>(Region.ready .any ops listed = [] → K s M) ∧ ∀ i ∈ Region.ready .any ops listed,∀ o,ops[i]? = some o → MOPS ok kv P ops [o] (fun s' M'=>MAny ok kv P ops K fuel (listed.setIfInBounds i true) s' M') s M
theorem MAny.go {K : St → MS α → Prop} {w0 w00 : World} {β0 : Nat → Option Loc} {s0 : St} {Q : Exit → Act → World → Prop}
    (hQ : ∀ w' β' a' s' M',K s' M' → SR w0 w' β' s' a' → MR ok kv w0 w' β' M' → MonSW w0 w00 β0 s0 w' β' s' → Q .normal a' w') :
    ∀ (fuel : Nat) (listed : Array Bool) (s : St) (M : MS α) (w : World) (β : Nat → Option Loc) (a : Act),MAny ok kv P ops K fuel listed s M → SR w0 w β s a → MR ok kv w0 w β M → MonSW w0 w00 β0 s0 w β s → wpAny P .any ops Q fuel listed a w
  | 0,listed,s,M,w,β,a,h,hs,hM,hm=>⟨h.1,hQ w β a s M h.2 hs hM hm⟩
  | fuel + 1,listed,s,M,w,β,a,h,hs,hM,hm=>by
    refine ⟨fun hr=>hQ w β a s M (h.1 hr) hs hM hm,fun i hi=>?_⟩
    cases ho : ops[i]? with
    | none=>unfold wpOp; rw [ho]; exact absurd hi (by
        unfold Region.ready
        simp [ho])
    | some o =>
      have h1:=h.2 i hi o ho w0 w β a (swapQ (fun a' w'=>wpAny P .any ops Q fuel (listed.setIfInBounds i true) a' w') Q) hs hM (fun w' β' a' s' M' k hs' hM' hm'=>MAny.go hQ fuel _ s' M' w' β' a' k hs' hM' (hm.trans hm'))
      unfold wpOp
      simp only [ho]
      unfold wpList at h1
      split at h1
      · rename_i hw
        simp only [hw,if_true]
        rcases h1 with h1 | h1
        · exact .inl (upon_swap h1)
        · exact .inr ⟨h1.1,letsOut_swap h1.2⟩
      · rename_i hw
        simp only [hw]
        exact h1
theorem MOPS.mono {K K' : St → MS α → Prop} (h : MOPS ok kv P ops l K s M) (hk : ∀ s M,K s M → K' s M) : MOPS ok kv P ops l K' s M :=
  fun w0 w β a Q hs hM hq=>h w0 w β a Q hs hM fun w' β' a' s' M' k=>hq w' β' a' s' M' (hk s' M' k)
theorem MAny.inv {K : St → MS α → Prop} (hp : preOk l = true) (I : (Nat → Bool) → St → MS α → Prop)
    (hstep : ∀ (L : Nat → Bool) (s : St) (M : MS α) (x : Nat) (o : Oper),Closed l.toArray L → I L s M → L x = false → l.toArray[x]? = some o → (∀ k ∈ pre o,L k = true) → MOPS ok kv P l.toArray [o] (fun s' M'=>I (upL L x) s' M') s M)
    (hend : ∀ (L : Nat → Bool) (s : St) (M : MS α),(∀ k,k < l.length → L k = true) → I L s M → K s M) :
    ∀ (fuel : Nat) (listed : Array Bool) (s : St) (M : MS α),listed.size = l.length → cnt (Ld listed) l.length ≤ fuel → Closed l.toArray (Ld listed) → I (Ld listed) s M → MAny ok kv P l.toArray K fuel listed s M:=by
  have hno : ∀ (listed : Array Bool),listed.size = l.length → Region.ready .any l.toArray listed = [] → ∀ j,j < l.length → Ld listed j = true:=by
    intro listed hsz hr j
    induction j using Nat.strongRecOn with
    | _ j ih =>
      intro hj
      cases hL : Ld listed j with
      | true=>rfl
      | false =>
        exfalso
        have ho : l.toArray[j]? = some l[j]:=by simp [hj]
        have : j ∈ Region.ready .any l.toArray listed:=ready_Ld ho (by omega) hL fun k hk=>ih k (preOk_lt hp ho hk) (by have:=preOk_lt hp ho hk; omega)
        rw [hr] at this; simp at this
  intro fuel
  induction fuel with
  | zero =>
    intro listed s M hsz hc hC hI
    have hall:=cnt_zero (L:=Ld listed) l.length (by omega)
    refine ⟨?_,hend _ s M hall hI⟩
    cases hr : Region.ready .any l.toArray listed with
    | nil=>rfl
    | cons i r =>
      exfalso
      obtain ⟨o,ho,h1,h2,_⟩:=Ld_ready (ops:=l.toArray) (listed:=listed) (i:=i) (by rw [hr]; simp)
      rw [hall i (by omega)] at h2; simp at h2
  | succ fuel ih =>
    intro listed s M hsz hc hC hI
    refine ⟨fun hr=>hend _ s M (hno listed hsz hr) hI,fun i hi o ho=>?_⟩
    obtain ⟨o',ho',h1,h2,h3⟩:=Ld_ready hi
    rw [ho] at ho'; simp only [Option.some.injEq] at ho'; subst ho'
    refine (hstep _ s M i o hC hI h2 ho h3).mono fun s' M' h'=>?_
    refine ih _ s' M' (by simpa using hsz) ?_ (by rw [Ld_set h1]; exact hC.up ho h3) (by rw [Ld_set h1]; exact h')
    rw [Ld_set h1]
    have:=cnt_up h2 l.length (by omega)
    omega
theorem MWP.inv {id : Nat} {K : Exit → St → MS α → Prop} (hm : P.follows .mixedOrders = true) (hp : preOk l = true) (I : (Nat → Bool) → St → MS α → Prop) (h0 : I (fun _=>false) s M)
    (hstep : ∀ (L : Nat → Bool) (s : St) (M : MS α) (x : Nat) (o : Oper),Closed l.toArray L → I L s M → L x = false → l.toArray[x]? = some o → (∀ k ∈ YtjbbbkfdcegfmaaGreat.pre o,L k = true) → MOPS ok kv P l.toArray [o] (fun s' M'=>I (upL L x) s' M') s M)
    (hend : ∀ (L : Nat → Bool) (s : St) (M : MS α),(∀ k,k < l.length → L k = true) → I L s M → K .normal s M) : MWP ok kv P (.region id l.toArray true) K s M:=by
  intro w0 w β a Q hs hM hq
  refine wp_region_any hm ?_
  refine MAny.go (w00:=w) (β0:=β) (s0:=s) (w0:=w0) (fun w' β' a' s' M' k hs' hM' hm'=>hq _ _ _ _ _ _ k hs' hM' hm') l.toArray.size _ s M w.drew β a (MAny.inv hp I hstep (fun L s M h1 h2=>hend L s M h1 h2) _ _ s M (by simp) (by have:=cnt_le (Ld (Array.replicate l.toArray.size false)) l.length; simpa using this) (by rw [Ld_new]; intro i o h; simp at h) (by rw [Ld_new]; exact h0)) ?_ (hM.keep (b:=bornB s.nx) (b':=bornB s.nx) Mon.drew) ?_
  · exact ⟨hs.hr.drew,hs.defers,hs.size,fun t=>VR.mon Mon.drew _ _ (hs.env t)⟩
  · exact MonS.weak ⟨Mon.drew,KeepF.refl _ _⟩
end
end Go.Proofs.YtjbbbkfdcegfmaaGreat
