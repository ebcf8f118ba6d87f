/- A region that draws its order: loads, calls that compute, new variables first (in any order), then stores and assignments (in theirs). In every order it comes to what the text's own order comes to. -/
import Derived.Test.YtjbbbkfdcegfmaaGreatG0F

namespace Go.Proofs.YtjbbbkfdcegfmaaGreat
open Go Go.RowKit

/-- The operations that must stand ahead of this one. -/
def pre (o : Oper) : List Nat:=(o.after.toList.filter fun e=>Region.binds .any e).map (·.on)

def isEff : Op → Bool
  | .assign _ | .store ..=>true
  | _=>false

def dstOf (ops : Array Oper) (i : Nat) : Option Nat:=(ops[i]?).bind (·.dst)

/-- The form of such a region. -/
def drawOk (ops : Array Oper) (m : Nat) : Bool :=
  (List.range ops.size).all fun i=>match ops[i]? with
    | none=>false
    | some o =>
      (pre o).all (fun j=>decide (j < i)) &&
      (if i < m then !isEff o.op else o.guard.isNone && (i == m || (pre o).contains (i - 1))) &&
      (match o.dst with
        | none=>true
        | some d=>(List.range ops.size).all fun j=>j == i || dstOf ops j != some d) &&
      (o.looksAt ops).all fun t=>(List.range ops.size).all fun j=>match ops[j]? with
        | none=>false
        | some p=>p.dst != some t || (decide (j < i) && (pre o).contains j) || (decide (i < j) && (pre p).contains i)

/-- What an operation does: the value that it yields; the block that it makes or writes; the blocks that it asks. -/
structure Ef where
  v : AV
  blk : Option (Nat × Nat × List (List AV))
  q : List Nat

/-- Does an operation ask what its operands' blocks hold? -/
def asksB : Op → Bool
  | .move _ | .extract .. | .pick ..=>false
  | _=>true
def qids (e : Nat → AV) (o : Oper) : List Nat:=if asksB o.op = true then o.op.operands.toList.filterMap fun x=>topId (ev e x) else []
/-- A set of operations that has what must stand ahead of its own. -/
def Closed (ops : Array Oper) (L : Nat → Bool) : Prop:=∀ i o,L i = true → ops[i]? = some o → ∀ j ∈ pre o,L j = true

/-- Ahead of the stores: one operation. -/
inductive D1 (P : Program) (ops : Array Oper) (s : St) (i : Nat) (e : Nat → AV) (H : Heap) (o : Oper) : Ef → Prop
  | off (hg : agd ops { s with env:=e } o = some false) : D1 P ops s i e H o ⟨.tup [],none,qids e o⟩
  | val (v : AV) (hg : agd ops { s with env:=e } o = some true) (h : opVal P { s with env:=e,heap:=H } o.op = some v) : D1 P ops s i e H o ⟨v,none,qids e o⟩
  | new (t : TypeId) (zs : List AV) (hg : agd ops { s with env:=e } o = some true) (ho : o.op = .alloc t) (hz : zOf P t = some zs) : D1 P ops s i e H o ⟨.ptr (s.nx + i) 0 0,some (s.nx + i,zs.length,[zs]),qids e o⟩
  | lit (z : Nat) (es : List (List AV)) (hg : agd ops { s with env:=e } o = some true) (h : opNew P e (s.nx + i) o.op = some (.osl (s.nx + i) 0 es.length,z,es)) : D1 P ops s i e H o ⟨.isl es,none,qids e o⟩
  | call (f : FuncId) (c : Call) (x : Operand) (cps args : List AV) (v : AV) (hg : agd ops { s with env:=e } o = some true) (ho : o.op = .call c) (hc : c.callee = .value x) (hx : ev e x = .fn f cps) (hb : hasBody P f = true) (ha : c.args.toList.map (ev e) ++ cps = args) (h : FC P f args v) : D1 P ops s i e H o ⟨v,none,qids e o⟩
  | ext (f : FuncId) (c : Call) (x : Operand) (cps args : List AV) (v : AV) (hg : agd ops { s with env:=e } o = some true) (ho : o.op = .call c) (hc : c.callee = .value x) (hx : ev e x = .fn f cps) (ha : c.args.toList.map (ev e) ++ cps = args) (h : FE P f args v) : D1 P ops s i e H o ⟨v,none,qids e o⟩
  | own (f : FuncId) (c : Call) (x : Operand) (cps args : List AV) (z : Nat) (es : List (List AV)) (hg : agd ops { s with env:=e } o = some true) (ho : o.op = .call c) (hc : c.callee = .value x) (hx : ev e x = .fn f cps) (hb : hasBody P f = true) (ha : c.args.toList.map (ev e) ++ cps = args) (h : FO P f args z es) : D1 P ops s i e H o ⟨.osl (s.nx + i) 0 es.length,some (s.nx + i,z,es),qids e o⟩

def updo (e : Nat → AV) (d : Option Nat) (v : AV) : Nat → AV:=match d with | some t=>upd e t v | none=>e
def hupo (H : Heap) : Option (Nat × Nat × List (List AV)) → Heap
  | none=>H
  | some (id,z,es)=>hupd H id (some (z,es))

/-- Does the store's block stand apart from what is not sure to be ahead of it? -/
def HC (nx : Nat) (pl : List Nat) (id : Nat) : List Ef → Nat → Prop
  | [],_=>True
  | f :: r,j=>(pl.contains j = true ∨ (id ∉ f.q ∧ id ≠ nx + j)) ∧ HC nx pl id r (j + 1)

/-- A store: which block, what it then holds. -/
def opSto1 (P : Program) (s : St) (op : Op) : Option (Nat × Nat × List (List AV)) :=
  match op with
  | .store t x y=>match ev s.env x with
    | .ptr id e off=>match s.heap id,avCells (ev s.env y) with
      | some (z,es),some cs=>match es[e]? with
        | some cells=>if szOf P t = some cs.length ∧ cs.length ≠ 0 ∧ off + cs.length ≤ cells.length ∧ cs.all avOne = true then some (id,z,es.set e (splice cells off cs)) else none
        | none=>none
      | _,_=>none
    | _=>none
  | _=>none

theorem opSto1_sto {P : Program} {s : St} {op : Op} {id z : Nat} {es : List (List AV)} (h : opSto1 P s op = some (id,z,es)) : opSto P s op = some (hupd s.heap id (some (z,es))):=by
  unfold opSto1 at h
  unfold opSto
  split at h
  · rename_i t x y
    simp only []
    split at h
    · rename_i i e off hx
      simp only [hx]
      split at h
      · rename_i z' es' cs hz hc
        simp only [hz,hc]
        split at h
        · rename_i cells hcl
          simp only [hcl]
          split at h
          · rename_i hcond
            rw [if_pos hcond]
            simp only [Option.some.injEq,Prod.mk.injEq] at h
            obtain ⟨rfl,rfl,rfl⟩:=h
            rfl
          · simp at h
        · simp at h
      · simp at h
    · simp at h
  · simp at h

theorem opSto1_congr {P : Program} {s s' : St} {op : Op} {id z : Nat} {es : List (List AV)} (h : ∀ x ∈ op.operands.toList,ev s'.env x = ev s.env x) (g : s'.heap id = s.heap id) (k : opSto1 P s op = some (id,z,es)) : opSto1 P s' op = some (id,z,es):=by
  cases op <;> simp only [opSto1,reduceCtorEq] at k ⊢
  case store t x y =>
    rw [h x (by simp [Op.operands]),h y (by simp [Op.operands])]
    split at k
    · rename_i i e off hx
      have hi : i = id:=by
        split at k
        · split at k
          · split at k
            · simp only [Option.some.injEq,Prod.mk.injEq] at k; exact k.1
            · simp at k
          · simp at k
        · simp at k
      subst hi
      rw [g]; exact k
    · simp at k

/-- The stores and assignments, one operation. -/
inductive D2 (P : Program) (ops : Array Oper) (s : St) (l : List Ef) (o : Oper) (t : St) : Ef → Prop
  | val (v : AV) (h : opVal P t o.op = some v) : D2 P ops s l o t ⟨v,none,[]⟩
  | asg (x : Operand) (ho : o.op = .assign x) : D2 P ops s l o t ⟨ev t.env x,none,[]⟩
  | sto (pl : List Nat) (id z : Nat) (es : List (List AV)) (hd : o.dst = none) (h : opSto1 P t o.op = some (id,z,es)) (hpl : ∀ L,Closed ops L → (∀ j ∈ pre o,L j = true) → ∀ j ∈ pl,L j = true) (hc : HC s.nx pl id l 0) : D2 P ops s l o t ⟨.junk,some (id,z,es),[]⟩

/-- The first part, in the text's order. -/
def DP (P : Program) (ops : Array Oper) (s : St) : List Oper → Nat → (Nat → AV) → Heap → ((Nat → AV) → Heap → List Ef → Prop) → Prop
  | [],_,e,H,K=>K e H []
  | o :: r,i,e,H,K=>∃ f,D1 P ops s i e H o f ∧ dstOk s o.dst = true ∧ DP P ops s r (i + 1) (updo e o.dst f.v) (hupo H f.blk) fun e' H' l=>K e' H' (f :: l)

/-- The second part. -/
def DQ (P : Program) (ops : Array Oper) (s : St) (l : List Ef) : List Oper → St → (St → Prop) → Prop
  | [],t,K=>K t
  | o :: r,t,K=>∃ f,D2 P ops s l o t f ∧ dstOk s o.dst = true ∧ DQ P ops s l r { t with env:=updo t.env o.dst f.v,heap:=hupo t.heap f.blk } K

/-- Slots and blocks behind the operations of a set. -/
def eS (ops : Array Oper) (ef : Nat → Ef) (e0 : Nat → AV) (L : Nat → Bool) : Nat → Nat → AV
  | 0=>e0
  | k + 1=>if L k then updo (eS ops ef e0 L k) (dstOf ops k) (ef k).v else eS ops ef e0 L k
def hS (ef : Nat → Ef) (H0 : Heap) (L : Nat → Bool) : Nat → Heap
  | 0=>H0
  | k + 1=>if L k then hupo (hS ef H0 L k) (ef k).blk else hS ef H0 L k

theorem updo_other {e : Nat → AV} {d : Option Nat} {v : AV} {t : Nat} (h : d ≠ some t) : updo e d v t = e t:=by
  cases d with
  | none=>rfl
  | some k =>
    show upd e k v t = e t
    unfold upd
    rw [if_neg (by intro g; subst g; exact h rfl)]

theorem eS_one {ops : Array Oper} {ef : Nat → Ef} {e0 : Nat → AV} {L : Nat → Bool} {t i : Nat} (hL : L i = true) (hd : dstOf ops i = some t) : ∀ n,i < n → (∀ j,j < n → j ≠ i → dstOf ops j ≠ some t) → eS ops ef e0 L n t = (ef i).v
  | 0,h,_=>by omega
  | k + 1,h,hu=>by
    unfold eS
    by_cases hk : k = i
    · subst hk
      rw [if_pos hL,hd]
      simp [updo,upd]
    · have ih:=eS_one (ef:=ef) (e0:=e0) hL hd k (by omega) fun j hj=>hu j (by omega)
      split
      · rw [updo_other (hu k (by omega) hk)]
        exact ih
      · exact ih

/-- What a set's blocks hold hangs on those of its operations alone that write there. -/
theorem hS_congr {ef : Nat → Ef} {H0 : Heap} {L L' : Nat → Bool} {id : Nat} : ∀ n,(∀ j,j < n → (ef j).blk.map (·.1) = some id → L j = L' j) → hS ef H0 L n id = hS ef H0 L' n id
  | 0,_=>rfl
  | k + 1,h=>by
    have ih:=hS_congr (ef:=ef) (H0:=H0) (L:=L) (L':=L') (id:=id) k fun j hj=>h j (by omega)
    unfold hS
    cases hb : (ef k).blk with
    | none=>simp only [hupo,ite_self]; exact ih
    | some q =>
      obtain ⟨i,z,es⟩:=q
      by_cases hi : i = id
      · subst hi
        rw [h k (by omega) (by simp [hb])]
        split
        · simp [hupo,hupd]
        · exact ih
      · have e : ∀ H : Heap,hupo H (some (i,z,es)) id = H id:=fun H=>by simp [hupo,hupd,Ne.symm hi]
        have e1 : ∀ (c : Bool) (H : Heap),(if c = true then hupo H (some (i,z,es)) else H) id = H id:=fun c H=>by cases c <;> simp [e]
        rw [e1,e1]; exact ih

theorem hS_none {ef : Nat → Ef} {H0 : Heap} {L : Nat → Bool} {id : Nat} (n : Nat) (h : ∀ j,j < n → L j = true → (ef j).blk.map (·.1) ≠ some id) : hS ef H0 L n id = H0 id:=by
  have:=hS_congr (ef:=ef) (H0:=H0) (L:=L) (L':=fun _=>false) (id:=id) n fun j hj hb=>by
    cases hL : L j with
    | false=>rfl
    | true=>exact absurd hb (h j hj hL)
  rw [this]
  clear this h
  induction n with
  | zero=>rfl
  | succ k ih=>simp only [hS,Bool.false_eq_true,if_false]; exact ih
end Go.Proofs.YtjbbbkfdcegfmaaGreat
