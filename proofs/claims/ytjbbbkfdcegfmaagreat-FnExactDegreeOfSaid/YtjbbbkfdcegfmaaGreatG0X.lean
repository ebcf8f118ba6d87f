/- A region in any order, by what holds of the operations that are done. -/
import Derived.Test.YtjbbbkfdcegfmaaGreatG0U

namespace Go.Proofs.YtjbbbkfdcegfmaaGreat
open Go Go.RowKit

/-- Each operation stands behind what must be ahead of it. -/
def preOk (l : List Oper) : Bool:=(List.range l.length).all fun i=>match l[i]? with
  | none=>true
  | some o=>(pre o).all fun k=>decide (k < i)
theorem preOk_lt {l : List Oper} (h : preOk l = true) {i : Nat} {o : Oper} (ho : l.toArray[i]? = some o) {k : Nat} (hk : k ∈ pre o) : k < i:=by
  have ho' : l[i]? = some o:=by simpa using ho
  have hi : i < l.length:=(List.getElem?_eq_some_iff.1 ho').1
  have:=List.all_eq_true.1 h i (List.mem_range.2 hi)
  rw [ho'] at this
  simpa using List.all_eq_true.1 this k hk

section
variable {P : Program} {l : List Oper} {K : St → Prop} {s : St}
theorem AAny.inv (hp : preOk l = true) (I : (Nat → Bool) → St → Prop)
    (hstep : ∀ (L : Nat → Bool) (s : St) (x : Nat) (o : Oper),Closed l.toArray L → I L s → L x = false → l.toArray[x]? = some o → (∀ k ∈ pre o,L k = true) → AOPS P l.toArray [o] (fun s'=>I (upL L x) s') s)
    (hend : ∀ (L : Nat → Bool) (s : St),(∀ k,k < l.length → L k = true) → I L s → K s) :
    ∀ (fuel : Nat) (listed : Array Bool) (s : St),listed.size = l.length → cnt (Ld listed) l.length ≤ fuel → Closed l.toArray (Ld listed) → I (Ld listed) s → AAny P l.toArray K fuel listed s:=by
  have hno : ∀ (listed : Array Bool),listed.size = l.length → Region.ready .any l.toArray listed = [] → ∀ j,j < l.length → Ld listed j = true:=by
    intro listed hsz hr j
    induction j using Nat.strongRecOn with
    | _ j ih =>
      intro hj
      cases hL : Ld listed j with
      | true=>rfl
      | false =>
        exfalso
        have ho : l.toArray[j]? = some l[j]:=by simp [hj]
        have : j ∈ Region.ready .any l.toArray listed:=ready_Ld ho (by omega) hL fun k hk=>ih k (preOk_lt hp ho hk) (by have:=preOk_lt hp ho hk; omega)
        rw [hr] at this; simp at this
  intro fuel
  induction fuel with
  | zero =>
    intro listed s hsz hc hC hI
    have hall:=cnt_zero (L:=Ld listed) l.length (by omega)
    refine ⟨?_,hend _ s hall hI⟩
    cases hr : Region.ready .any l.toArray listed with
    | nil=>rfl
    | cons i r =>
      exfalso
      obtain ⟨o,ho,h1,h2,_⟩:=Ld_ready (ops:=l.toArray) (listed:=listed) (i:=i) (by rw [hr]; simp)
      rw [hall i (by omega)] at h2; simp at h2
  | succ fuel ih =>
    intro listed s hsz hc hC hI
    refine ⟨fun hr=>hend _ s (hno listed hsz hr) hI,fun i hi o ho=>?_⟩
    obtain ⟨o',ho',h1,h2,h3⟩:=Ld_ready hi
    rw [ho] at ho'; simp only [Option.some.injEq] at ho'; subst ho'
    refine (hstep _ s i o hC hI h2 ho h3).mono fun s' h'=>?_
    refine ih _ s' (by simpa using hsz) ?_ (by rw [Ld_set h1]; exact hC.up ho h3) (by rw [Ld_set h1]; exact h')
    rw [Ld_set h1]
    have:=cnt_up h2 l.length (by omega)
    omega
theorem Ld_new (n : Nat) : Ld (Array.replicate n false) = fun _=>false:=by
  funext j
  unfold Ld
  simp only [Array.getD_eq_getD_getElem?,Array.getElem?_replicate]
  split <;> rfl
theorem AWP.inv {id : Nat} {K : Exit → St → Prop} (hm : P.follows .mixedOrders = true) (hp : preOk l = true) (I : (Nat → Bool) → St → Prop) (h0 : I (fun _=>false) s)
    (hstep : ∀ (L : Nat → Bool) (s : St) (x : Nat) (o : Oper),Closed l.toArray L → I L s → L x = false → l.toArray[x]? = some o → (∀ k ∈ pre o,L k = true) → AOPS P l.toArray [o] (fun s'=>I (upL L x) s') s)
    (hend : ∀ (L : Nat → Bool) (s : St),(∀ k,k < l.length → L k = true) → I L s → K .normal s) : AWP P (.region id l.toArray true) K s :=
  AWP.any hm (AAny.inv hp I hstep hend _ _ s (by simp) (by have:=cnt_le (Ld (Array.replicate l.toArray.size false)) l.length; simpa using this) (by rw [Ld_new]; intro i o h; simp at h) (by rw [Ld_new]; exact h0))
theorem Closed.not {ops : Array Oper} {L : Nat → Bool} (h : Closed ops L) {k j : Nat} {o : Oper} (hj : L j = false) (ho : ops[k]? = some o) (hp : j ∈ pre o) : L k = false:=by
  cases hk : L k with
  | false=>rfl
  | true=>rw [h k o hk ho j hp] at hj; simp at hj
end
end Go.Proofs.YtjbbbkfdcegfmaaGreat
