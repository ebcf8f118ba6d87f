/- Calls that hand back a new block of one's own; rows that are marked. -/
import Derived.Test.YtaibemhdfhchfaaGreatG0U

namespace Go.Proofs.YtaibemhdfhchfaaGreat
open Go Go.RowKit

/-- A heap of one block. -/
def hone (id z : Nat) (es : List (List AV)) : Heap:=fun i=>if i = id then some (z,es) else none
theorem hrestr_one {H : Heap} {id z : Nat} {es : List (List AV)} (h : H id = some (z,es)) : hrestr (fun i=>decide (i = id)) H = hone id z es:=by
  funext i; simp only [hrestr,hone,decide_eq_true_eq]; split
  · rename_i e; rw [e,h]
  · rfl
/-- What a call hands back: a value that speaks of one new block. -/
def own1 (nx z : Nat) (es : List (List AV)) (mk : Nat → AV) : AV → Heap → Nat → Prop:=fun r H nx'=>∃ id,nx ≤ id ∧ id < nx' ∧ r = mk id ∧ H = hone id z es
theorem Fin.own1 {P : Program} {fn : Func} {s : St} {r : AV} {id z : Nat} {es : List (List AV)} (h : Fin P fn s r s.heap s.nx) (hH : s.heap id = some (z,es)) : Fin P fn s r (hone id z es) s.nx:=by
  rw [← hrestr_one hH]; exact h.restr _
section
variable {P : Program} {ops : Array Oper} {K : St → Prop} {s : St} {o : Oper} {rest : List Oper}
end
section
variable {P : Program} {f : FuncId} {args : List AV}
/-- A new block of one's own, given up at once. -/
theorem FC.of_own {z : Nat} {es : List (List AV)} {mk : Nat → AV} {r : AV} (hi : idfL args) (hr : idf r) (hz : ∀ id,fz id es (mk id) = r) (h : ∀ nx,ACall P f args (fun _=>none) nx (YtaibemhdfhchfaaGreat.own1 nx z es mk)) : FC P f args r:=by
  intro w β b N vs h1 h2 h3
  have h3':=VRL.idf (β':=β) (b':=bornB N) (fun _ h=>h) _ _ hi h3
  refine (h N w w β vs ⟨Below.refl _ _,fun id z es he=>by simp at he,fun id l hl=>⟨fun hn=>absurd rfl hn,(h1 id l hl).1,by simp [bornB,(h1 id l hl).2]⟩,h2⟩ h3').mono ?_
  rintro e w' ⟨v,r',H',nx',β1,rfl,⟨id,q1,q2,rfl,rfl⟩,hh,hv,hm,hk⟩
  obtain ⟨l,hl,hb⟩:=hh.blk id z es (by simp [hone])
  have hf:=fz_ok hh hl hb _ _ hv
  rw [hz] at hf
  refine ⟨v,rfl,fun b'=>VR.idf (fun g hg i l' hl' hgg=>?_) _ _ hr hf,hh.below⟩
  have hki:=hk i l' hl' (h1 i l' hl').1
  have hne : i ≠ id:=by have:=(h1 i l' hl').2; omega
  exact hg i l' (by simp [bupd,hne,hki]) hgg
end
section
variable {P : Program} {ops : Array Oper} {K : St → Prop} {s : St} {o : Oper} {rest : List Oper}
end
end Go.Proofs.YtaibemhdfhchfaaGreat
