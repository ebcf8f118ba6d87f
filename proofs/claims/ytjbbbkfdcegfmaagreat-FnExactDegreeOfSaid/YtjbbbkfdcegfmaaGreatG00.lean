/- The values of an abstract program logic over the model, and what they say of the machine's values. -/
import Derived.Tactics
import Derived.Orders
import Derived.Below
import Derived.WalkKit

namespace Go.Proofs.YtjbbbkfdcegfmaaGreat
open Go Go.RowKit

/-- An abstract value. 'isl': a slice that is no more written, by its elements' cells; 'ip': an address of cells that are no more written; 'osl', 'ptr': into blocks of one's own, by their numbers; 'nsl': the nil slice; 'junk': nothing is said. -/
inductive AV where
  | bool (b : Bool)
  | int (k : IntKind) (n : Int)
  | str (s : ByteArray)
  | nil
  | nsl
  | ptr (id e off : Nat)
  | ip (cells : List AV)
  | isl (es : List (List AV))
  | osl (id s n : Nat)
  | agg (cells : List AV)
  | tup (vs : List AV)
  | fn (f : FuncId) (caps : List AV)
  | raw (v : Value)
  | junk
  deriving Inhabited

/-- Where a block of one's own lies: the machine's block, the first cell, the cells of an element. -/
structure Loc where
  g : Nat
  o : Nat
  z : Nat

def notown (β : Nat → Option Loc) (g : Nat) : Prop:=∀ id l,β id = some l → l.g ≠ g

/-- Cell k behind address a reads u, in a block that is nobody's own. -/
def Rd (w : World) (β : Nat → Option Loc) (a : Option Addr) (k : Nat) (u : Value) : Prop :=
  ∃ g o,a = some ⟨g,o,none⟩ ∧ w.cell? ⟨g,o + k,none⟩ = some u ∧ notown β g

/-- The cells of the elements, read one behind the other. -/
def Rds (w : World) (β : Nat → Option Loc) (a : Option Addr) (z : Nat) (vss : List (List Value)) : Prop :=
  ∀ e vs,vss[e]? = some vs → vs.length = z ∧ ∀ j u,vs[j]? = some u → Rd w β a (e * z + j) u

mutual
/-- What an abstract value says of a value. -/
def VR (w : World) (β : Nat → Option Loc) (born : Nat → Bool) : AV → Value → Prop
  | .bool b,v=>v = .bool b
  | .int k n,v=>v = .int k n
  | .str s,v=>v = .string s
  | .nil,v=>v = .pointer none
  | .nsl,v=>v = .slice none 0 0
  | .ptr id e off,v=>born id = true ∧ (∃ p,v = .pointer p) ∧ ∀ l,β id = some l → v = .pointer (some ⟨l.g,l.o + e * l.z + off,none⟩)
  | .ip cells,v=>∃ g o vs,v = .pointer (some ⟨g,o,none⟩) ∧ VRL w β born cells vs ∧ ∀ j u,vs[j]? = some u → Rd w β (some ⟨g,o,none⟩) j u
  | .isl es,v=>∃ a cap z vss,v = .slice a es.length cap ∧ es.length ≤ cap ∧ VRLL w β born es vss ∧ Rds w β a z vss
  | .osl id s n,v=>born id = true ∧ (∃ p k c,v = .slice p k c) ∧ ∀ l,β id = some l → ∃ a cap,v = .slice a n cap ∧ n ≤ cap ∧ (cap = 0 ∨ (a = some ⟨l.g,l.o + s * l.z,none⟩ ∧ ∃ e k,w.shape? l.g = some (e,k) ∧ l.o + (s + cap) * l.z ≤ k))
  | .agg cells,v=>∃ vs : Array Value,v = .agg vs ∧ VRL w β born cells vs.toList
  | .tup xs,v=>∃ vs : Array Value,v = .tuple vs ∧ VRL w β born xs vs.toList
  | .fn f caps,v=>∃ vs : Array Value,v = .func (.func f) #[] vs ∧ VRL w β born caps vs.toList
  | .raw u,v=>u = v
  | .junk,_=>True
def VRL (w : World) (β : Nat → Option Loc) (born : Nat → Bool) : List AV → List Value → Prop
  | [],vs=>vs = []
  | c :: cs,vs=>∃ v r,vs = v :: r ∧ VR w β born c v ∧ VRL w β born cs r
def VRLL (w : World) (β : Nat → Option Loc) (born : Nat → Bool) : List (List AV) → List (List Value) → Prop
  | [],vss=>vss = []
  | c :: cs,vss=>∃ v r,vss = v :: r ∧ VRL w β born c v ∧ VRLL w β born cs r
end

/-- From one world to a later one: what is nobody's own stays, no number that was given comes anew. -/
structure Mon (w : World) (β : Nat → Option Loc) (b : Nat → Bool) (w' : World) (β' : Nat → Option Loc) (b' : Nat → Bool) : Prop where
  size : w.heap.size ≤ w'.heap.size
  keep : ∀ g,g < w.heap.size → notown β g → w'.heap[g]? = w.heap[g]? ∧ notown β' g
  shape : ∀ g e,w.shape? g = some e → w'.shape? g = some e
  born : ∀ id,b id = true → b' id = true
  beta : ∀ id l,b id = true → β' id = some l → β id = some l

theorem Mon.refl (w : World) (β : Nat → Option Loc) (b : Nat → Bool) : Mon w β b w β b :=
  ⟨Nat.le_refl _,fun _ _ h=>⟨rfl,h⟩,fun _ _ h=>h,fun _ h=>h,fun _ _ _ h=>h⟩

theorem Mon.trans {w w1 w2 : World} {β β1 β2 : Nat → Option Loc} {b b1 b2 : Nat → Bool} (h : Mon w β b w1 β1 b1) (k : Mon w1 β1 b1 w2 β2 b2) : Mon w β b w2 β2 b2 :=
  ⟨Nat.le_trans h.size k.size,
   fun g hg hn=>by
     obtain ⟨e1,n1⟩:=h.keep g hg hn
     obtain ⟨e2,n2⟩:=k.keep g (Nat.lt_of_lt_of_le hg h.size) n1
     exact ⟨e2.trans e1,n2⟩,
   fun g e hs=>k.shape g e (h.shape g e hs),
   fun id hb=>k.born id (h.born id hb),
   fun id l hb hl=>h.beta id l hb (k.beta id l (h.born id hb) hl)⟩

theorem cell_lt {w : World} {a : Addr} {u : Value} (h : w.cell? a = some u) : a.block < w.heap.size:=by
  unfold World.cell? at h
  rcases Nat.lt_or_ge a.block w.heap.size with hlt | hge
  · exact hlt
  · rw [Array.getElem?_eq_none hge] at h; simp at h

theorem cell_of_block {w w' : World} {a : Addr} (h : w'.heap[a.block]? = w.heap[a.block]?) : w'.cell? a = w.cell? a:=by
  unfold World.cell?; rw [h]

theorem Rd.mon {w w' : World} {β β' : Nat → Option Loc} {b b' : Nat → Bool} (m : Mon w β b w' β' b') {a : Option Addr} {k : Nat} {u : Value} (h : Rd w β a k u) : Rd w' β' a k u:=by
  obtain ⟨g,o,ha,hc,hn⟩:=h
  obtain ⟨e1,n1⟩:=m.keep g (cell_lt hc) hn
  exact ⟨g,o,ha,by rw [cell_of_block (a:=⟨g,o + k,none⟩) e1]; exact hc,n1⟩

theorem Rds.mon {w w' : World} {β β' : Nat → Option Loc} {b b' : Nat → Bool} (m : Mon w β b w' β' b') {a : Option Addr} {z : Nat} {vss : List (List Value)} (h : Rds w β a z vss) : Rds w' β' a z vss :=
  fun e vs he=>⟨(h e vs he).1,fun j u hu=>((h e vs he).2 j u hu).mon m⟩

mutual
theorem VR.mon {w w' : World} {β β' : Nat → Option Loc} {b b' : Nat → Bool} (m : Mon w β b w' β' b') : ∀ (x : AV) (v : Value),VR w β b x v → VR w' β' b' x v
  | .bool _,_,h=>h
  | .int _ _,_,h=>h
  | .str _,_,h=>h
  | .nil,_,h=>h
  | .nsl,_,h=>h
  | .raw _,_,h=>h
  | .junk,_,_=>trivial
  | .ptr id _ _,_,h=>⟨m.born id h.1,h.2.1,fun l hl=>h.2.2 l (m.beta id l h.1 hl)⟩
  | .ip cells,_,⟨g,o,vs,hv,hl,hr⟩=>⟨g,o,vs,hv,VRL.mon m cells vs hl,fun j u hu=>(hr j u hu).mon m⟩
  | .isl es,_,⟨a,cap,z,vss,hv,hc,hl,hr⟩=>⟨a,cap,z,vss,hv,hc,VRLL.mon m es vss hl,hr.mon m⟩
  | .osl id _ _,_,h=>⟨m.born id h.1,h.2.1,fun l hl=>by
      obtain ⟨a,cap,h1,h2,h3⟩:=h.2.2 l (m.beta id l h.1 hl)
      exact ⟨a,cap,h1,h2,h3.imp (fun q=>q) fun ⟨h4,e,k,h5,h6⟩=>⟨h4,e,k,m.shape _ _ h5,h6⟩⟩⟩
  | .agg cells,_,⟨vs,hv,hl⟩=>⟨vs,hv,VRL.mon m cells _ hl⟩
  | .tup xs,_,⟨vs,hv,hl⟩=>⟨vs,hv,VRL.mon m xs _ hl⟩
  | .fn _ caps,_,⟨vs,hv,hl⟩=>⟨vs,hv,VRL.mon m caps _ hl⟩
theorem VRL.mon {w w' : World} {β β' : Nat → Option Loc} {b b' : Nat → Bool} (m : Mon w β b w' β' b') : ∀ (xs : List AV) (vs : List Value),VRL w β b xs vs → VRL w' β' b' xs vs
  | [],_,h=>h
  | c :: cs,_,⟨v,r,e,hv,hr⟩=>⟨v,r,e,VR.mon m c v hv,VRL.mon m cs r hr⟩
theorem VRLL.mon {w w' : World} {β β' : Nat → Option Loc} {b b' : Nat → Bool} (m : Mon w β b w' β' b') : ∀ (xs : List (List AV)) (vs : List (List Value)),VRLL w β b xs vs → VRLL w' β' b' xs vs
  | [],_,h=>h
  | c :: cs,_,⟨v,r,e,hv,hr⟩=>⟨v,r,e,VRL.mon m c v hv,VRLL.mon m cs r hr⟩
end

theorem VRL.length {w : World} {β : Nat → Option Loc} {b : Nat → Bool} : ∀ (xs : List AV) (vs : List Value),VRL w β b xs vs → vs.length = xs.length
  | [],_,h=>by rw [show _ = [] from h]; rfl
  | _ :: cs,_,⟨_,r,e,_,hr⟩=>by rw [e,List.length_cons,List.length_cons,VRL.length cs r hr]

theorem VRLL.length {w : World} {β : Nat → Option Loc} {b : Nat → Bool} : ∀ (xs : List (List AV)) (vs : List (List Value)),VRLL w β b xs vs → vs.length = xs.length
  | [],_,h=>by rw [show _ = [] from h]; rfl
  | _ :: cs,_,⟨_,r,e,_,hr⟩=>by rw [e,List.length_cons,List.length_cons,VRLL.length cs r hr]

theorem VRL.get {w : World} {β : Nat → Option Loc} {b : Nat → Bool} : ∀ (xs : List AV) (vs : List Value) (j : Nat) (x : AV),VRL w β b xs vs → xs[j]? = some x → ∃ v,vs[j]? = some v ∧ VR w β b x v
  | [],_,j,x,_,hx=>by simp at hx
  | _ :: _,_,0,x,⟨v,r,e,hv,hr⟩,hx=>by simp at hx; subst hx; exact ⟨v,by rw [e]; rfl,hv⟩
  | _ :: cs,_,j + 1,x,⟨v,r,e,hv,hr⟩,hx=>by
    obtain ⟨u,hu,h⟩:=VRL.get cs r j x hr (by simpa using hx)
    exact ⟨u,by rw [e]; simpa using hu,h⟩

theorem VRLL.get {w : World} {β : Nat → Option Loc} {b : Nat → Bool} : ∀ (xs : List (List AV)) (vs : List (List Value)) (j : Nat) (x : List AV),VRLL w β b xs vs → xs[j]? = some x → ∃ v,vs[j]? = some v ∧ VRL w β b x v
  | [],_,j,x,_,hx=>by simp at hx
  | _ :: _,_,0,x,⟨v,r,e,hv,hr⟩,hx=>by simp at hx; subst hx; exact ⟨v,by rw [e]; rfl,hv⟩
  | _ :: cs,_,j + 1,x,⟨v,r,e,hv,hr⟩,hx=>by
    obtain ⟨u,hu,h⟩:=VRLL.get cs r j x hr (by simpa using hx)
    exact ⟨u,by rw [e]; simpa using hu,h⟩

theorem VRL.drop {w : World} {β : Nat → Option Loc} {b : Nat → Bool} : ∀ (n : Nat) (xs : List AV) (vs : List Value),VRL w β b xs vs → VRL w β b (xs.drop n) (vs.drop n)
  | 0,_,_,h=>h
  | _ + 1,[],_,h=>by rw [show _ = [] from h]; rfl
  | n + 1,_ :: cs,_,⟨_,r,e,_,hr⟩=>by rw [e]; exact VRL.drop n cs r hr

theorem VRL.take {w : World} {β : Nat → Option Loc} {b : Nat → Bool} : ∀ (n : Nat) (xs : List AV) (vs : List Value),VRL w β b xs vs → VRL w β b (xs.take n) (vs.take n)
  | 0,_,_,_=>rfl
  | _ + 1,[],_,h=>by rw [show _ = [] from h]; rfl
  | n + 1,_ :: cs,_,⟨v,r,e,hv,hr⟩=>by rw [e]; exact ⟨v,r.take n,rfl,hv,VRL.take n cs r hr⟩

theorem VRLL.drop {w : World} {β : Nat → Option Loc} {b : Nat → Bool} : ∀ (n : Nat) (xs : List (List AV)) (vs : List (List Value)),VRLL w β b xs vs → VRLL w β b (xs.drop n) (vs.drop n)
  | 0,_,_,h=>h
  | _ + 1,[],_,h=>by rw [show _ = [] from h]; rfl
  | n + 1,_ :: cs,_,⟨_,r,e,_,hr⟩=>by rw [e]; exact VRLL.drop n cs r hr

theorem VRLL.take {w : World} {β : Nat → Option Loc} {b : Nat → Bool} : ∀ (n : Nat) (xs : List (List AV)) (vs : List (List Value)),VRLL w β b xs vs → VRLL w β b (xs.take n) (vs.take n)
  | 0,_,_,_=>rfl
  | _ + 1,[],_,h=>by rw [show _ = [] from h]; rfl
  | n + 1,_ :: cs,_,⟨v,r,e,hv,hr⟩=>by rw [e]; exact ⟨v,r.take n,rfl,hv,VRLL.take n cs r hr⟩

theorem VRL.append {w : World} {β : Nat → Option Loc} {b : Nat → Bool} : ∀ (xs ys : List AV) (us vs : List Value),VRL w β b xs us → VRL w β b ys vs → VRL w β b (xs ++ ys) (us ++ vs)
  | [],_,_,_,h,k=>by rw [show _ = [] from h]; exact k
  | _ :: cs,ys,_,vs,⟨v,r,e,hv,hr⟩,k=>by rw [e]; exact ⟨v,r ++ vs,rfl,hv,VRL.append cs ys r vs hr k⟩

theorem VRLL.append {w : World} {β : Nat → Option Loc} {b : Nat → Bool} : ∀ (xs ys : List (List AV)) (us vs : List (List Value)),VRLL w β b xs us → VRLL w β b ys vs → VRLL w β b (xs ++ ys) (us ++ vs)
  | [],_,_,_,h,k=>by rw [show _ = [] from h]; exact k
  | _ :: cs,ys,_,vs,⟨v,r,e,hv,hr⟩,k=>by rw [e]; exact ⟨v,r ++ vs,rfl,hv,VRLL.append cs ys r vs hr k⟩

theorem VRL.set {w : World} {β : Nat → Option Loc} {b : Nat → Bool} : ∀ (j : Nat) (xs : List AV) (vs : List Value) (x : AV) (v : Value),VRL w β b xs vs → VR w β b x v → VRL w β b (xs.set j x) (vs.set j v)
  | _,[],_,_,_,h,_=>by rw [show _ = [] from h]; rfl
  | 0,_ :: cs,_,x,v,⟨_,r,e,_,hr⟩,hx=>by rw [e]; exact ⟨v,r,rfl,hx,hr⟩
  | j + 1,_ :: cs,_,x,v,⟨u,r,e,hu,hr⟩,hx=>by rw [e]; exact ⟨u,r.set j v,rfl,hu,VRL.set j cs r x v hr hx⟩

theorem VRLL.set {w : World} {β : Nat → Option Loc} {b : Nat → Bool} : ∀ (j : Nat) (xs : List (List AV)) (vs : List (List Value)) (x : List AV) (v : List Value),VRLL w β b xs vs → VRL w β b x v → VRLL w β b (xs.set j x) (vs.set j v)
  | _,[],_,_,_,h,_=>by rw [show _ = [] from h]; rfl
  | 0,_ :: cs,_,x,v,⟨_,r,e,_,hr⟩,hx=>by rw [e]; exact ⟨v,r,rfl,hx,hr⟩
  | j + 1,_ :: cs,_,x,v,⟨u,r,e,hu,hr⟩,hx=>by rw [e]; exact ⟨u,r.set j v,rfl,hu,VRLL.set j cs r x v hr hx⟩
end Go.Proofs.YtjbbbkfdcegfmaaGreat
