/- States of the abstract logic, what they say of a frame and a world, and the rules for code. -/
import Derived.Test.YtjbbbkfdcegfmaaGreatG00
import Derived.Deep.LoopGhost

namespace Go.Proofs.YtjbbbkfdcegfmaaGreat
open Go Go.RowKit

/-- The kit's Below, and no draw is taken back. -/
structure Below (B : Nat) (w w' : World) : Prop extends RowKit.Below B w w' where
  drawn : w.drawn ≤ w'.drawn
theorem Below.refl (B : Nat) (w : World) : Below B w w:=⟨.refl B w,Nat.le_refl _⟩
section
variable {B : Nat} {a b w : World}
theorem Below.trans (h : Below B a b) (k : Below B b w) : Below B a w:=⟨h.1.trans k.1,Nat.le_trans h.2 k.2⟩
theorem Below.mono {B' : Nat} (h : Below B a b) (hB : B' ≤ B) : Below B' a b:=⟨h.1.mono hB,h.2⟩
theorem Below.drew (h : Below B a w) : Below B a w.drew:=⟨h.1.drew,Nat.le_succ_of_le h.2⟩
theorem Below.alloc (h : Below B a w) (hB : B ≤ w.heap.size) (o : Obj) : Below B a (w.alloc o):=⟨h.1.alloc hB o,h.2⟩
end

abbrev Heap:=Nat → Option (Nat × List (List AV))

structure St where
  env : Nat → AV
  heap : Heap
  nx : Nat
  nt : Nat

/-- A block of one's own holds the cells of these elements, from its first cell on. -/
def BR (w : World) (β : Nat → Option Loc) (b : Nat → Bool) (l : Loc) (z : Nat) (es : List (List AV)) : Prop :=
  l.z = z ∧ ∃ c elem,w.heap[l.g]? = some (.cells c elem (0,0)) ∧ ∃ vss,VRLL w β b es vss ∧
    ∀ e vs,vss[e]? = some vs → vs.length = z ∧ ∀ j u,vs[j]? = some u → c[l.o + e * z + j]? = some u

structure HR (w0 w : World) (β : Nat → Option Loc) (b : Nat → Bool) (H : Heap) : Prop where
  below : Below w0.heap.size w0 w
  blk : ∀ id z es,H id = some (z,es) → ∃ l,β id = some l ∧ BR w β b l z es
  dom : ∀ id l,β id = some l → (H id ≠ none → w0.heap.size ≤ l.g) ∧ l.g < w.heap.size ∧ b id = true
  inj : ∀ i j l l',β i = some l → β j = some l' → l.g = l'.g → i = j

def bornB (n : Nat) : Nat → Bool:=fun id=>decide (id < n)

structure SRb (w0 w : World) (β : Nat → Option Loc) (b : Nat → Bool) (s : St) (a : Act) : Prop where
  hr : HR w0 w β b s.heap
  defers : a.defers = []
  size : a.tmps.size = s.nt
  env : ∀ t,VR w β b (s.env t) (a.tmps.getD t undef)
abbrev SR (w0 w : World) (β : Nat → Option Loc) (s : St) (a : Act) : Prop:=SRb w0 w β (bornB s.nx) s a

/-- Blocks that lay there when the call began stay what they were taken for. -/
def KeepF (w0 : World) (β β' : Nat → Option Loc) : Prop:=∀ id l,β id = some l → l.g < w0.heap.size → β' id = some l
theorem KeepF.refl (w0 : World) (β : Nat → Option Loc) : KeepF w0 β β:=fun _ _ h _=>h
theorem KeepF.trans {w0 : World} {β β1 β2 : Nat → Option Loc} (h : KeepF w0 β β1) (k : KeepF w0 β1 β2) : KeepF w0 β β2:=fun id l h1 h2=>k id l (h id l h1 h2) h2

def MonS (w0 w : World) (β : Nat → Option Loc) (s : St) (w' : World) (β' : Nat → Option Loc) (s' : St) : Prop :=
  Mon w β (bornB s.nx) w' β' (bornB s'.nx) ∧ KeepF w0 β β'

theorem MonS.refl (w0 w : World) (β : Nat → Option Loc) (s : St) : MonS w0 w β s w β s:=⟨Mon.refl _ _ _,KeepF.refl _ _⟩
theorem MonS.trans {w0 w w1 w2 : World} {β β1 β2 : Nat → Option Loc} {s s1 s2 : St} (h : MonS w0 w β s w1 β1 s1) (k : MonS w0 w1 β1 s1 w2 β2 s2) : MonS w0 w β s w2 β2 s2:=⟨Mon.trans h.1 k.1,h.2.trans k.2⟩

/-- Code from a state: it comes to an exit with a state of which K holds. -/
def AWP (P : Program) (c : Code) (K : Exit → St → Prop) (s : St) : Prop :=
  ∀ (w0 w : World) (β : Nat → Option Loc) (a : Act) (Q : Exit → Act → World → Prop),SR w0 w β s a →
    (∀ e w' β' a' s',K e s' → SR w0 w' β' s' a' → MonS w0 w β s w' β' s' → Q e a' w') → c.wp P Q a w

/-- Operations one behind the other. -/
def AOPS (P : Program) (ops : Array Oper) (l : List Oper) (K : St → Prop) (s : St) : Prop :=
  ∀ (w0 w : World) (β : Nat → Option Loc) (a : Act) (Q : Exit → Act → World → Prop),SR w0 w β s a →
    (∀ w' β' a' s',K s' → SR w0 w' β' s' a' → MonS w0 w β s w' β' s' → Q .normal a' w') → wpList P ops Q l a w

def ASeq (K : St → Prop) (E : Exit → St → Prop) : Exit → St → Prop
  | .normal,s=>K s
  | e,s=>E e s

def ABlk (id : Nat) (E : Exit → St → Prop) : Exit → St → Prop
  | .exit i,s=>if i = id then E .normal s else E (.exit i) s
  | e,s=>E e s

section
variable {P : Program} {K : Exit → St → Prop} {s : St}

theorem AWP.mono {c : Code} {K' : Exit → St → Prop} (h : AWP P c K s) (hk : ∀ e s,K e s → K' e s) : AWP P c K' s :=
  fun w0 w β a Q hs hq=>h w0 w β a Q hs fun e w' β' a' s' k=>hq e w' β' a' s' (hk e s' k)

theorem AWP.skip (h : K .normal s) : AWP P .skip K s:=fun _ _ _ _ _ hs hq=>wp_skip (hq _ _ _ _ _ h hs (MonS.refl _ _ _ _))
theorem AWP.exit {id : Nat} (h : K (.exit id) s) : AWP P (.exit id) K s:=fun _ _ _ _ _ hs hq=>wp_exit (hq _ _ _ _ _ h hs (MonS.refl _ _ _ _))
theorem AWP.ret (h : K .ret s) : AWP P .ret K s:=fun _ _ _ _ _ hs hq=>wp_ret (hq _ _ _ _ _ h hs (MonS.refl _ _ _ _))

theorem AWP.seq {x y : Code} (h : AWP P x (ASeq (AWP P y K) K) s) : AWP P (.seq x y) K s:=by
  intro w0 w β a Q hs hq
  refine wp_seq (h w0 w β a _ hs ?_)
  intro e w' β' a' s' k hs' hm
  cases e with
  | normal=>exact k w0 w' β' a' Q hs' fun e2 w2 β2 a2 s2 k2 hs2 hm2=>hq e2 w2 β2 a2 s2 k2 hs2 (hm.trans hm2)
  | exit i=>exact hq _ _ _ _ _ k hs' hm
  | goto l=>exact hq _ _ _ _ _ k hs' hm
  | ret=>exact hq _ _ _ _ _ k hs' hm
  | panic ch=>exact hq _ _ _ _ _ k hs' hm
  | outgrown=>exact hq _ _ _ _ _ k hs' hm

/-- What follows stands behind a name. -/
theorem AWP.seqk {x y : Code} (h : ∀ K' : St → Prop,(∀ s',AWP P y K s' → K' s') → AWP P x (ASeq K' K) s) : AWP P (.seq x y) K s :=
  AWP.seq (h _ fun _ h=>h)

theorem AWP.block {id : Nat} {c : Code} (h : AWP P c (ABlk id K) s) : AWP P (.block id c) K s:=by
  intro w0 w β a Q hs hq
  refine wp_block (h w0 w β a _ hs ?_)
  intro e w' β' a' s' k hs' hm
  cases e with
  | normal=>exact hq _ _ _ _ _ k hs' hm
  | exit i =>
    simp only [ABlk] at k
    simp only [Exit.inBlock]
    split <;> rename_i h <;> simp only [h,if_true,if_false] at k <;> exact hq _ _ _ _ _ k hs' hm
  | goto l=>exact hq _ _ _ _ _ k hs' hm
  | ret=>exact hq _ _ _ _ _ k hs' hm
  | panic ch=>exact hq _ _ _ _ _ k hs' hm
  | outgrown=>exact hq _ _ _ _ _ k hs' hm

theorem AWP.loop {c : Code} (I : Nat → St → Prop) (n0 : Nat) (h0 : I n0 s) (round : ∀ n s',I n s' → AWP P c (ASeq (fun s''=>∃ m,m < n ∧ I m s'') K) s') : AWP P (.loop c) K s:=by
  intro w0 w β a Q hs hq
  refine wp_loop_ghost (fun n a' w'=>∃ β' s',I n s' ∧ SR w0 w' β' s' a' ∧ MonS w0 w β s w' β' s') n0 ⟨β,s,h0,hs,MonS.refl _ _ _ _⟩ ?_
  rintro n a1 w1 ⟨β1,s1,hI,hs1,hm1⟩
  refine round n s1 hI w0 w1 β1 a1 _ hs1 ?_
  intro e w' β' a' s' k hs' hm
  cases e with
  | normal=>obtain ⟨m,hlt,hI'⟩:=k; exact ⟨m,hlt,β',s',hI',hs',hm1.trans hm⟩
  | exit i=>exact hq _ _ _ _ _ k hs' (hm1.trans hm)
  | goto l=>exact hq _ _ _ _ _ k hs' (hm1.trans hm)
  | ret=>exact hq _ _ _ _ _ k hs' (hm1.trans hm)
  | panic ch=>exact hq _ _ _ _ _ k hs' (hm1.trans hm)
  | outgrown=>exact hq _ _ _ _ _ k hs' (hm1.trans hm)

theorem AWP.region {id : Nat} {l : List Oper} (h : AOPS P l.toArray l (fun s'=>K .normal s') s) : AWP P (.region id l.toArray false) K s:=by
  intro w0 w β a Q hs hq
  exact wp_region_lit (h w0 w β a Q hs fun w' β' a' s' k hs' hm=>hq _ _ _ _ _ k hs' hm)
end

/-- The value of an operand. -/
def cv : Value → AV
  | .bool b=>.bool b
  | .int k n=>.int k n
  | .string s=>.str s
  | .pointer none=>.nil
  | .slice none 0 0=>.nsl
  | _=>.junk

def ev (e : Nat → AV) : Operand → AV
  | .tmp t=>e t
  | .const v=>cv v
  | .func f=>.fn f []
  | .global _=>.junk

theorem cv_ok {w : World} {β : Nat → Option Loc} {b : Nat → Bool} (v : Value) : VR w β b (cv v) v:=by
  unfold cv
  split <;> simp [VR]

theorem ev_ok {w0 w : World} {β : Nat → Option Loc} {b : Nat → Bool} {s : St} {a : Act} (h : SRb w0 w β b s a) (x : Operand) : VR w β b (ev s.env x) (a.eval x):=by
  cases x with
  | tmp t=>exact h.env t
  | const v=>exact cv_ok v
  | func f=>exact ⟨#[],rfl,rfl⟩
  | global g=>trivial

theorem cond_ok {P : Program} {K : Exit → St → Prop} {s : St} {c : Operand} {x y : Code} (t : Bool) (hc : ev s.env c = .bool t) (h1 : t = true → AWP P x K s) (h2 : t = false → AWP P y K s) : AWP P (.cond c x y) K s:=by
  intro w0 w β a Q hs hq
  have he:=ev_ok hs c
  rw [hc] at he
  have he : a.eval c = .bool t:=he
  cases t
  · exact wp_cond_false he (h2 rfl w0 w β a Q hs hq)
  · exact wp_cond_true he (h1 rfl w0 w β a Q hs hq)

def upd (e : Nat → AV) (t : Nat) (v : AV) : Nat → AV:=fun i=>if i = t then v else e i
def puts (s : St) (d : Option Nat) (v : AV) : St:=match d with | some t=>{ s with env:=upd s.env t v } | none=>s

theorem env_put {w : World} {β : Nat → Option Loc} {b : Nat → Bool} {xs : Array Value} {d : Nat} {v : Value} {x : AV} {e : Nat → AV}
    (hx : VR w β b x v) (he : ∀ t,VR w β b (e t) (xs.getD t undef)) (hd : d < xs.size) (t : Nat) : VR w β b (upd e d x t) ((xs.setIfInBounds d v).getD t undef):=by
  unfold upd
  split
  · rename_i h; subst h; simpa [Array.getD,hd] using hx
  · rename_i h
    have:=he t
    simpa [Array.getD_eq_getD_getElem?,Array.getElem?_setIfInBounds_ne (Ne.symm h)] using this

/-- Is the destination there? -/
def dstOk (s : St) (d : Option Nat) : Bool:=match d with | some t=>decide (t < s.nt) | none=>true

theorem SRb.put {w0 w : World} {β : Nat → Option Loc} {b : Nat → Bool} {s : St} {a : Act} (h : SRb w0 w β b s a) {d : Option Nat} {v : Value} {x : AV} (hx : VR w β b x v) (hd : dstOk s d = true) :
    SRb w0 w β b (puts s d x) (a.put d v):=by
  cases d with
  | none=>exact h
  | some t =>
    have ht : t < a.tmps.size:=by rw [h.size]; simpa [dstOk] using hd
    exact ⟨h.hr,h.defers,by simp [Act.put,h.size,puts],fun i=>env_put hx h.env ht i⟩

theorem SR.put {w0 w : World} {β : Nat → Option Loc} {s : St} {a : Act} (h : SR w0 w β s a) {d : Option Nat} {v : Value} {x : AV} (hx : VR w β (bornB s.nx) x v) (hd : dstOk s d = true) :
    SR w0 w β (puts s d x) (a.put d v):=by
  have:=SRb.put h hx hd
  cases d <;> exact this

theorem puts_nx (s : St) (d : Option Nat) (x : AV) : (puts s d x).nx = s.nx:=by cases d <;> rfl
theorem puts_nt (s : St) (d : Option Nat) (x : AV) : (puts s d x).nt = s.nt:=by cases d <;> rfl
/-- Is the operation's guard on? -/
def agd (ops : Array Oper) (s : St) (o : Oper) : Option Bool :=
  match o.guard with
  | none=>some true
  | some (j,want)=>match (ops[j]?).bind (·.dst) with
    | some t=>match s.env t with
      | .bool b=>if t < s.nt then some (b == want) else none
      | .tup []=>if t < s.nt then some false else none
      | _=>none
    | none=>none

theorem agd_ok {ops : Array Oper} {w0 w : World} {β : Nat → Option Loc} {bn : Nat → Bool} {s : St} {a : Act} {o : Oper} {b : Bool} (hs : SRb w0 w β bn s a) (h : agd ops s o = some b) : Region.wanted o (yielded ops a.tmps) = b:=by
  unfold agd at h
  unfold Region.wanted
  cases hg : o.guard with
  | none=>simp [hg] at h; simp [h]
  | some jw =>
    obtain ⟨j,want⟩:=jw
    simp only [hg] at h
    cases ht : (ops[j]?).bind (·.dst) with
    | none=>simp [ht] at h
    | some t =>
      simp only [ht] at h
      have he:=hs.env t
      cases hx : s.env t <;> simp only [hx] at h <;> try (simp at h; done)
      case bool c =>
        rw [hx] at he
        have he : a.tmps.getD t undef = .bool c:=he
        split at h
        · rename_i hlt
          have hlt' : t < a.tmps.size:=by rw [hs.size]; exact hlt
          simp only [Option.some.injEq] at h
          have e1 : a.tmps[t]? = some (.bool c):=by
            rw [Array.getElem?_eq_getElem hlt']
            congr 1
            simpa [Array.getD,hlt'] using he
          simp only [yielded,ht,Option.bind_some,e1,← h]
          cases c <;> cases want <;> rfl
        · simp at h
      case tup xs =>
        cases xs with
        | cons x r=>simp at h
        | nil =>
          rw [hx] at he
          obtain ⟨vs,hv,hl⟩:=he
          have hvs : vs = #[]:=by
            have : vs.toList = []:=hl
            simpa using this
          subst hvs
          replace h : (if t < s.nt then some false else none) = some b:=h
          by_cases hlt : t < s.nt
          · rw [if_pos hlt] at h
            have hlt' : t < a.tmps.size:=by rw [hs.size]; exact hlt
            simp only [Option.some.injEq] at h
            have e1 : a.tmps[t]? = some (.tuple #[]):=by
              rw [Array.getElem?_eq_getElem hlt']
              congr 1
              simpa [Array.getD,hlt'] using hv
            simp only [yielded,ht,Option.bind_some,e1,← h]
            cases want <;> rfl
          · rw [if_neg hlt] at h; simp at h

section
variable {P : Program} {ops : Array Oper} {K : St → Prop} {s : St} {o : Oper} {rest : List Oper}

theorem AOPS.nil (h : K s) : AOPS P ops [] K s:=fun _ _ _ _ _ hs hq=>hq _ _ _ _ h hs (MonS.refl _ _ _ _)

theorem AOPS.mono {l : List Oper} {K' : St → Prop} (h : AOPS P ops l K s) (hk : ∀ s,K s → K' s) : AOPS P ops l K' s :=
  fun w0 w β a Q hs hq=>h w0 w β a Q hs fun w' β' a' s' k=>hq w' β' a' s' (hk s' k)

/-- An operation whose guard is off. -/
theorem AOPS.off (hg : agd ops s o = some false) (hd : dstOk s o.dst = true) (h : AOPS P ops rest K (puts s o.dst (.tup []))) : AOPS P ops (o :: rest) K s:=by
  intro w0 w β a Q hs hq
  refine wpList_step fun K' hK=>?_
  rw [agd_ok hs hg,if_neg (by simp)]
  refine hK _ _ (h w0 w β _ Q (hs.put (x:=.tup []) ⟨#[],rfl,rfl⟩ hd) fun w' β' a' s' k hs' hm=>hq w' β' a' s' k hs' ?_)
  unfold MonS at *
  rwa [puts_nx] at hm

/-- An operation that yields a value and leaves the world as it is. -/
theorem AOPS.val (x : AV) (hrun : ∀ w0 w β a,SR w0 w β s a → ∃ v,(execOp a.eval o).run P w = .ok (.value v) w ∧ VR w β (bornB s.nx) x v)
    (hg : agd ops s o = some true) (hd : dstOk s o.dst = true) (h : AOPS P ops rest K (puts s o.dst x)) : AOPS P ops (o :: rest) K s:=by
  intro w0 w β a Q hs hq
  refine wpList_step fun K' hK=>?_
  rw [agd_ok hs hg,if_pos rfl]
  obtain ⟨v,hv,hx⟩:=hrun w0 w β a hs
  unfold Oper.wp
  rw [hv]
  refine hK _ _ (h w0 w β _ Q (hs.put hx hd) fun w' β' a' s' k hs' hm=>hq w' β' a' s' k hs' ?_)
  unfold MonS at *
  rwa [puts_nx] at hm
end
end Go.Proofs.YtjbbbkfdcegfmaaGreat
