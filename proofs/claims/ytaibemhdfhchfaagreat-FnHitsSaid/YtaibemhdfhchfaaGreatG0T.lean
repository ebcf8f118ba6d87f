/- Own blocks lent to a call for its time. -/
import Derived.Test.YtaibemhdfhchfaaGreatG0S

namespace Go.Proofs.YtaibemhdfhchfaaGreat
open Go Go.RowKit

section
variable {w0 w : World} {β : Nat → Option Loc} {b : Nat → Bool} {H : Heap}
end

mutual
/-- Speaks of no block. -/
def atm : AV → Prop
  | .bool _=>True
  | .int _ _=>True
  | .str _=>True
  | .nil=>True
  | .nsl=>True
  | .raw _=>True
  | .junk=>True
  | .agg cs=>atmL cs
  | .tup cs=>atmL cs
  | _=>False
def atmL : List AV → Prop
  | []=>True
  | x :: r=>atm x ∧ atmL r
/-- Speaks of new blocks only. -/
def nwr (nx : Nat) : AV → Prop
  | .bool _=>True
  | .int _ _=>True
  | .str _=>True
  | .nil=>True
  | .nsl=>True
  | .raw _=>True
  | .junk=>True
  | .osl i _ _=>nx ≤ i
  | .ptr i _ _=>nx ≤ i
  | .agg cs=>nwrL nx cs
  | .tup cs=>nwrL nx cs
  | .fn _ cs=>nwrL nx cs
  | _=>False
def nwrL (nx : Nat) : List AV → Prop
  | []=>True
  | x :: r=>nwr nx x ∧ nwrL nx r
end
mutual
theorem atm_any {w w' : World} {β β' : Nat → Option Loc} {b b' : Nat → Bool} : ∀ (x : AV) (v : Value),atm x → VR w β b x v → VR w' β' b' x v
  | .bool _,_,_,k=>k
  | .int _ _,_,_,k=>k
  | .str _,_,_,k=>k
  | .nil,_,_,k=>k
  | .nsl,_,_,k=>k
  | .raw _,_,_,k=>k
  | .junk,_,_,_=>trivial
  | .agg cs,_,h,⟨vs,e,hl⟩=>⟨vs,e,atmL_any cs _ h hl⟩
  | .tup cs,_,h,⟨vs,e,hl⟩=>⟨vs,e,atmL_any cs _ h hl⟩
  | .ptr _ _ _,_,h,_=>h.elim
  | .ip _,_,h,_=>h.elim
  | .isl _,_,h,_=>h.elim
  | .osl _ _ _,_,h,_=>h.elim
  | .fn _ _,_,h,_=>h.elim
theorem atmL_any {w w' : World} {β β' : Nat → Option Loc} {b b' : Nat → Bool} : ∀ (xs : List AV) (vs : List Value),atmL xs → VRL w β b xs vs → VRL w' β' b' xs vs
  | [],_,_,k=>k
  | c :: cs,_,h,⟨v,r,e,hv,hr⟩=>⟨v,r,e,atm_any c v h.1 hv,atmL_any cs r h.2 hr⟩
end
mutual
theorem nwr_any {w : World} {β β' : Nat → Option Loc} {b : Nat → Bool} {nx : Nat} (hβ : ∀ i,nx ≤ i → β' i = β i) : ∀ (x : AV) (v : Value),nwr nx x → VR w β b x v → VR w β' b x v
  | .bool _,_,_,k=>k
  | .int _ _,_,_,k=>k
  | .str _,_,_,k=>k
  | .nil,_,_,k=>k
  | .nsl,_,_,k=>k
  | .raw _,_,_,k=>k
  | .junk,_,_,_=>trivial
  | .agg cs,_,h,⟨vs,e,hl⟩=>⟨vs,e,nwrL_any hβ cs _ h hl⟩
  | .tup cs,_,h,⟨vs,e,hl⟩=>⟨vs,e,nwrL_any hβ cs _ h hl⟩
  | .fn _ cs,_,h,⟨vs,e,hl⟩=>⟨vs,e,nwrL_any hβ cs _ h hl⟩
  | .ptr i _ _,_,h,k=>⟨k.1,k.2.1,fun l hl=>k.2.2 l (by rw [hβ i h] at hl; exact hl)⟩
  | .osl i _ _,_,h,k=>⟨k.1,k.2.1,fun l hl=>k.2.2 l (by rw [hβ i h] at hl; exact hl)⟩
  | .ip _,_,h,_=>h.elim
  | .isl _,_,h,_=>h.elim
theorem nwrL_any {w : World} {β β' : Nat → Option Loc} {b : Nat → Bool} {nx : Nat} (hβ : ∀ i,nx ≤ i → β' i = β i) : ∀ (xs : List AV) (vs : List Value),nwrL nx xs → VRL w β b xs vs → VRL w β' b xs vs
  | [],_,_,k=>k
  | c :: cs,_,h,⟨v,r,e,hv,hr⟩=>⟨v,r,e,nwr_any hβ c v h.1 hv,nwrL_any hβ cs r h.2 hr⟩
end
section
variable {P : Program} {ops : Array Oper} {K : St → Prop} {s : St} {o : Oper} {rest : List Oper}
/-- A region without calls, and what follows. -/
theorem AWP.sr {id : Nat} {l : List Oper} {y : Code} {K : Exit → St → Prop} {s' : St} (h1 : runOps P l.toArray l s = some s') (h : AWP P y K s') : AWP P (.seq (.region id l.toArray false) y) K s :=
  AWP.seqk fun _ hK=>AWP.region (AOPS.all h1 (hK _ h))
end
end Go.Proofs.YtaibemhdfhchfaaGreat
