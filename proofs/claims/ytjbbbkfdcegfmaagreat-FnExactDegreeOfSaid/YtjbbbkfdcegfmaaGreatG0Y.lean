/- Maps: a layer over the logic. A map's block is nobody's own: what the logic proves of code that makes and changes no map leaves all maps as they are. -/
import Derived.Test.YtjbbbkfdcegfmaaGreatG0X
import Derived.DeepKeys3

namespace Go.Proofs.YtjbbbkfdcegfmaaGreat
open Go Go.RowKit

/-- What an abstract value says of a value wherever it stands. -/
def PV (x : AV) (v : Value) : Prop:=∀ w β b,VR w β b x v
/-- Values of which nothing lies in a block. -/
def scal1 : AV → Bool
  | .bool _=>true
  | .int _ _=>true
  | .str _=>true
  | _=>false
def scal : AV → Bool
  | .agg cs=>cs.all scal1
  | x=>scal1 x

theorem scal1_ok {w : World} {β : Nat → Option Loc} {b : Nat → Bool} : ∀ {x : AV} {v : Value},scal1 x = true → VR w β b x v → PV x v
  | .bool _,_,_,h=>fun _ _ _=>h
  | .int _ _,_,_,h=>fun _ _ _=>h
  | .str _,_,_,h=>fun _ _ _=>h
theorem scalL_ok {w : World} {β : Nat → Option Loc} {b : Nat → Bool} : ∀ {xs : List AV} {vs : List Value},xs.all scal1 = true → VRL w β b xs vs → ∀ w' β' b',VRL w' β' b' xs vs
  | [],_,_,h=>fun _ _ _=>h
  | c :: cs,_,hs,⟨v,r,e,hv,hr⟩=>fun w' β' b'=>by
    simp only [List.all_cons,Bool.and_eq_true] at hs
    exact ⟨v,r,e,scal1_ok hs.1 hv w' β' b',scalL_ok hs.2 hr w' β' b'⟩
theorem scal_ok {w : World} {β : Nat → Option Loc} {b : Nat → Bool} {x : AV} {v : Value} (hs : scal x = true) (h : VR w β b x v) : PV x v:=by
  unfold scal at hs
  split at hs
  · obtain ⟨vs,e,hl⟩:=h
    exact fun w' β' b'=>⟨vs,e,scalL_ok hs hl w' β' b'⟩
  · exact scal1_ok hs h

/-- From one world to a later one, maps may have been changed. -/
structure MonW (w : World) (β : Nat → Option Loc) (b : Nat → Bool) (w' : World) (β' : Nat → Option Loc) (b' : Nat → Bool) : Prop where
  size : w.heap.size ≤ w'.heap.size
  keep : ∀ g,g < w.heap.size → notown β g → (w'.heap[g]? = w.heap[g]? ∨ ∃ es c es' c',w.heap[g]? = some (.map es c) ∧ w'.heap[g]? = some (.map es' c')) ∧ notown β' g
  shape : ∀ g e,w.shape? g = some e → w'.shape? g = some e
  born : ∀ id,b id = true → b' id = true
  beta : ∀ id l,b id = true → β' id = some l → β id = some l

theorem Mon.weak {w w' : World} {β β' : Nat → Option Loc} {b b' : Nat → Bool} (m : Mon w β b w' β' b') : MonW w β b w' β' b' :=
  ⟨m.size,fun g h1 h2=>⟨.inl (m.keep g h1 h2).1,(m.keep g h1 h2).2⟩,m.shape,m.born,m.beta⟩
theorem MonW.trans {w w1 w2 : World} {β β1 β2 : Nat → Option Loc} {b b1 b2 : Nat → Bool} (h : MonW w β b w1 β1 b1) (k : MonW w1 β1 b1 w2 β2 b2) : MonW w β b w2 β2 b2 :=
  ⟨Nat.le_trans h.size k.size,
   fun g hg hn=>by
     obtain ⟨e1,n1⟩:=h.keep g hg hn
     obtain ⟨e2,n2⟩:=k.keep g (Nat.lt_of_lt_of_le hg h.size) n1
     refine ⟨?_,n2⟩
     rcases e1 with e1 | ⟨es,c,es',c',q1,q2⟩ <;> rcases e2 with e2 | ⟨fs,d,fs',d',r1,r2⟩
     · exact .inl (e2.trans e1)
     · exact .inr ⟨fs,d,fs',d',by rw [← e1]; exact r1,r2⟩
     · exact .inr ⟨es,c,es',c',q1,by rw [e2]; exact q2⟩
     · exact .inr ⟨es,c,fs',d',q1,r2⟩,
   fun g e hs=>k.shape g e (h.shape g e hs),fun id hb=>k.born id (h.born id hb),fun id l hb hl=>h.beta id l hb (k.beta id l (h.born id hb) hl)⟩

theorem Rd.monW {w w' : World} {β β' : Nat → Option Loc} {b b' : Nat → Bool} (m : MonW w β b w' β' b') {a : Option Addr} {k : Nat} {u : Value} (h : Rd w β a k u) : Rd w' β' a k u:=by
  obtain ⟨g,o,ha,hc,hn⟩:=h
  obtain ⟨e1,n1⟩:=m.keep g (cell_lt hc) hn
  refine ⟨g,o,ha,?_,n1⟩
  rcases e1 with e1 | ⟨es,c,es',c',q1,q2⟩
  · rw [cell_of_block (a:=⟨g,o + k,none⟩) e1]; exact hc
  · simp [World.cell?,q1] at hc
theorem Rds.monW {w w' : World} {β β' : Nat → Option Loc} {b b' : Nat → Bool} (m : MonW w β b w' β' b') {a : Option Addr} {z : Nat} {vss : List (List Value)} (h : Rds w β a z vss) : Rds w' β' a z vss :=
  fun e vs he=>⟨(h e vs he).1,fun j u hu=>((h e vs he).2 j u hu).monW m⟩
mutual
theorem VR.monW {w w' : World} {β β' : Nat → Option Loc} {b b' : Nat → Bool} (m : MonW w β b w' β' b') : ∀ (x : AV) (v : Value),VR w β b x v → VR w' β' b' x v
  | .bool _,_,h=>h
  | .int _ _,_,h=>h
  | .str _,_,h=>h
  | .nil,_,h=>h
  | .nsl,_,h=>h
  | .raw _,_,h=>h
  | .junk,_,_=>trivial
  | .ptr id _ _,_,h=>⟨m.born id h.1,h.2.1,fun l hl=>h.2.2 l (m.beta id l h.1 hl)⟩
  | .ip cells,_,⟨g,o,vs,hv,hl,hr⟩=>⟨g,o,vs,hv,VRL.monW m cells vs hl,fun j u hu=>(hr j u hu).monW m⟩
  | .isl es,_,⟨a,cap,z,vss,hv,hc,hl,hr⟩=>⟨a,cap,z,vss,hv,hc,VRLL.monW m es vss hl,hr.monW m⟩
  | .osl id _ _,_,h=>⟨m.born id h.1,h.2.1,fun l hl=>by
      obtain ⟨a,cap,h1,h2,h3⟩:=h.2.2 l (m.beta id l h.1 hl)
      exact ⟨a,cap,h1,h2,h3.imp (fun q=>q) fun ⟨h4,e,k,h5,h6⟩=>⟨h4,e,k,m.shape _ _ h5,h6⟩⟩⟩
  | .agg cells,_,⟨vs,hv,hl⟩=>⟨vs,hv,VRL.monW m cells _ hl⟩
  | .tup xs,_,⟨vs,hv,hl⟩=>⟨vs,hv,VRL.monW m xs _ hl⟩
  | .fn _ caps,_,⟨vs,hv,hl⟩=>⟨vs,hv,VRL.monW m caps _ hl⟩
theorem VRL.monW {w w' : World} {β β' : Nat → Option Loc} {b b' : Nat → Bool} (m : MonW w β b w' β' b') : ∀ (xs : List AV) (vs : List Value),VRL w β b xs vs → VRL w' β' b' xs vs
  | [],_,h=>h
  | c :: cs,_,⟨v,r,e,hv,hr⟩=>⟨v,r,e,VR.monW m c v hv,VRL.monW m cs r hr⟩
theorem VRLL.monW {w w' : World} {β β' : Nat → Option Loc} {b b' : Nat → Bool} (m : MonW w β b w' β' b') : ∀ (xs : List (List AV)) (vs : List (List Value)),VRLL w β b xs vs → VRLL w' β' b' xs vs
  | [],_,h=>h
  | c :: cs,_,⟨v,r,e,hv,hr⟩=>⟨v,r,e,VRL.monW m c v hv,VRLL.monW m cs r hr⟩
end

/-- The maps by their blocks: what each has for each key. -/
abbrev MS (α : Type):=Nat → Option (α → Option AV)
def mupd {α : Type} (M : MS α) (g : Nat) (f : α → Option AV) : MS α:=fun i=>if i = g then some f else M i
def fupd {α : Type} [DecidableEq α] (f : α → Option AV) (a : α) (x : AV) : α → Option AV:=fun c=>if c = a then some x else f c

/-- Keys of a type: how they are told, and what they are. -/
structure KeyT {α : Type} (P : Program) (kt : TypeId) (ok : α → Prop) (kv : α → AV) : Prop where
  law : WideMaps.KeyLaw P kt
  key : ∀ a u,ok a → PV (kv a) u → ∃ l,keyOf P kt u = some l
  one : ∀ a u v,PV (kv a) u → PV (kv a) v → u = v
  inj : ∀ a c u,PV (kv a) u → PV (kv c) u → a = c

/-- What a map has, by its entries. -/
def EN {α : Type} (ok : α → Prop) (kv : α → AV) (f : α → Option AV) (es : List MapEntry) : Prop :=
  (∀ e ∈ es,∃ a x,ok a ∧ PV (kv a) e.key ∧ f a = some x ∧ PV x e.val) ∧ (∀ a x,f a = some x → ∃ e ∈ es,PV (kv a) e.key) ∧
  ∀ (i j : Nat) (e e' : MapEntry),es[i]? = some e → es[j]? = some e' → e.key = e'.key → i = j

def MR {α : Type} (ok : α → Prop) (kv : α → AV) (w0 w : World) (β : Nat → Option Loc) (M : MS α) : Prop :=
  ∀ g f,M g = some f → w0.heap.size ≤ g ∧ notown β g ∧ ∃ es c,w.heap[g]? = some (.map es c) ∧ EN ok kv f es.toList

theorem blk_lt {w : World} {g : Nat} {o : Obj} (h : w.heap[g]? = some o) : g < w.heap.size:=by
  rcases Nat.lt_or_ge g w.heap.size with h1 | h1
  · exact h1
  · rw [Array.getElem?_eq_none h1] at h; simp at h

section
variable {α : Type} {ok : α → Prop} {kv : α → AV} {P : Program} {kt : TypeId} {f : α → Option AV} {es : List MapEntry} {a : α} {u v : Value} {x : AV}

theorem MR.keep {w0 w w' : World} {β β' : Nat → Option Loc} {b b' : Nat → Bool} {M : MS α} (h : MR ok kv w0 w β M) (m : Mon w β b w' β' b') : MR ok kv w0 w' β' M:=by
  intro g f hg
  obtain ⟨h1,h2,es,c,h3,h4⟩:=h g f hg
  obtain ⟨e,n⟩:=m.keep g (blk_lt h3) h2
  exact ⟨h1,n,es,c,by rw [e]; exact h3,h4⟩

theorem EN.keys (K : KeyT P kt ok kv) (h : EN ok kv f es) : ∀ e ∈ es,∃ k,keyOf P kt e.key = some k:=fun e he=>by
  obtain ⟨a,_,o,k,_⟩:=h.1 e he
  exact K.key a _ o k

theorem EN.no (K : KeyT P kt ok kv) (h : EN ok kv f es) (hu : PV (kv a) u) (hn : ∀ e ∈ es,e.key ≠ u) : f a = none:=by
  cases hf : f a with
  | none=>rfl
  | some x =>
    obtain ⟨e,he,hk⟩:=h.2.1 a x hf
    exact absurd (K.one a _ _ hk hu) (hn e he)

theorem EN.yes (K : KeyT P kt ok kv) (h : EN ok kv f es) (hu : PV (kv a) u) {e : MapEntry} (he : e ∈ es) (hk : e.key = u) : ∃ x,f a = some x ∧ PV x e.val:=by
  obtain ⟨c,x,_,k,hf,hx⟩:=h.1 e he
  have : c = a:=K.inj _ _ u (by rw [← hk]; exact k) hu
  exact ⟨x,by rw [← this]; exact hf,hx⟩

theorem EN.nil : EN ok kv (fun _=>none) []:=⟨by simp,by simp,by simp⟩

variable [DecidableEq α]
theorem EN.push (K : KeyT P kt ok kv) (h : EN ok kv f es) (ho : ok a) (hu : PV (kv a) u) (hx : PV x v) (hn : ∀ e ∈ es,e.key ≠ u) (c : Nat) : EN ok kv (fupd f a x) (es ++ [⟨u,v,c⟩]):=by
  refine ⟨fun e he=>?_,fun q y hq=>?_,fun i j e e' hi hj hk=>?_⟩
  · rcases List.mem_append.mp he with he | he
    · obtain ⟨q,y,h1,h2,h3,h4⟩:=h.1 e he
      have : q ≠ a:=fun e'=>hn e he (K.one q _ _ h2 (by rw [e']; exact hu))
      exact ⟨q,y,h1,h2,by simp [fupd,this,h3],h4⟩
    · simp at he; subst he
      exact ⟨a,x,ho,hu,by simp [fupd],hx⟩
  · by_cases hqa : q = a
    · exact ⟨⟨u,v,c⟩,by simp,by rw [hqa]; exact hu⟩
    · simp only [fupd,hqa,if_false] at hq
      obtain ⟨e,he,hk⟩:=h.2.1 q y hq
      exact ⟨e,by simp [he],hk⟩
  · have key : ∀ i e,(es ++ [(⟨u,v,c⟩ : MapEntry)])[i]? = some e → (i < es.length ∧ es[i]? = some e) ∨ (i = es.length ∧ e.key = u):=by
      intro i e hi
      rcases Nat.lt_trichotomy i es.length with hl | hl | hl
      · rw [List.getElem?_append_left hl] at hi; exact .inl ⟨hl,hi⟩
      · subst hl; simp at hi; subst hi; exact .inr ⟨rfl,rfl⟩
      · rw [List.getElem?_eq_none (by simp; omega)] at hi; simp at hi
    rcases key i e hi with ⟨h1,h2⟩ | ⟨h1,h2⟩ <;> rcases key j e' hj with ⟨h3,h4⟩ | ⟨h3,h4⟩
    · exact h.2.2 i j e e' h2 h4 hk
    · exact absurd (hk.trans h4) (hn e (List.mem_of_getElem? h2))
    · exact absurd (hk.symm.trans h2) (hn e' (List.mem_of_getElem? h4))
    · omega

theorem EN.modify (K : KeyT P kt ok kv) (h : EN ok kv f es) (ho : ok a) (hu : PV (kv a) u) (hx : PV x v) {j : Nat} {e0 : MapEntry} (hj : es[j]? = some e0) (hk0 : e0.key = u) :
    EN ok kv (fupd f a x) (es.modify j fun e=>{ e with key:=u,val:=v }):=by
  have get : ∀ i e,(es.modify j fun e=>{ e with key:=u,val:=v })[i]? = some e → (i ≠ j ∧ es[i]? = some e ∧ e.key ≠ u) ∨ (i = j ∧ e.key = u ∧ e.val = v):=by
    intro i e hi
    rw [List.getElem?_modify] at hi
    by_cases hij : j = i
    · subst hij; simp [hj] at hi; subst hi; exact .inr ⟨rfl,rfl,rfl⟩
    · simp [hij] at hi
      exact .inl ⟨fun q=>hij q.symm,hi,fun q=>hij (h.2.2 j i e0 e hj hi (hk0.trans q.symm))⟩
  have put : (es.modify j fun e=>{ e with key:=u,val:=v })[j]? = some { e0 with key:=u,val:=v }:=by
    rw [List.getElem?_modify]; simp [hj]
  refine ⟨fun e he=>?_,fun q y hq=>?_,fun i i' e e' hi hi' hk=>?_⟩
  · obtain ⟨i,hi⟩:=List.getElem?_of_mem he
    rcases get i e hi with ⟨_,h2,h3⟩ | ⟨_,h2,h3⟩
    · obtain ⟨q,y,k1,k2,k3,k4⟩:=h.1 e (List.mem_of_getElem? h2)
      have : q ≠ a:=fun e'=>h3 (K.one q _ _ k2 (by rw [e']; exact hu))
      exact ⟨q,y,k1,k2,by simp [fupd,this,k3],k4⟩
    · exact ⟨a,x,ho,by rw [h2]; exact hu,by simp [fupd],by rw [h3]; exact hx⟩
  · by_cases hqa : q = a
    · exact ⟨_,List.mem_of_getElem? put,by rw [hqa]; exact hu⟩
    · simp only [fupd,hqa,if_false] at hq
      obtain ⟨e,he,hk⟩:=h.2.1 q y hq
      obtain ⟨i,hi⟩:=List.getElem?_of_mem he
      have hij : i ≠ j:=by
        intro e1; subst e1
        rw [hj] at hi; simp at hi; subst hi
        exact hqa (K.inj _ _ u (by rw [← hk0]; exact hk) hu)
      exact ⟨e,List.mem_of_getElem? (i:=i) (by rw [List.getElem?_modify,hi]; simp; exact fun e'=>absurd e'.symm hij),hk⟩
  · rcases get i e hi with ⟨h1,h2,h3⟩ | ⟨h1,h2,h3⟩ <;> rcases get i' e' hi' with ⟨k1,k2,k3⟩ | ⟨k1,k2,k3⟩
    · exact h.2.2 i i' e e' h2 k2 hk
    · exact absurd (hk.trans k2) h3
    · exact absurd (hk.symm.trans h2) k3
    · omega
end

/-- Keys that are structs of numbers: how they are told. -/
def rv : AV → Value
  | .bool b=>.bool b
  | .int k n=>.int k n
  | .str s=>.string s
  | _=>.bool false
theorem rvL {w : World} {β : Nat → Option Loc} {b : Nat → Bool} : ∀ {xs : List AV} {vs : List Value},xs.all scal1 = true → VRL w β b xs vs → vs = xs.map rv
  | [],_,_,h=>h
  | c :: cs,_,hs,⟨v,r,e,hv,hr⟩=>by
    simp only [List.all_cons,Bool.and_eq_true] at hs
    rw [e,List.map_cons,← rvL hs.2 hr]
    congr 1
    cases c <;> simp only [scal1,Bool.false_eq_true,false_and] at hs <;> exact hv
theorem pv_agg {xs : List AV} {u : Value} (hs : xs.all scal1 = true) (h : PV (.agg xs) u) : u = .agg (xs.map rv).toArray:=by
  obtain ⟨vs,e,hl⟩:=h default (fun _=>none) (fun _=>false)
  rw [e,← rvL hs hl]
theorem kl_word {P : Program} {t : TypeId} (hu : P.underlying t = some (.int .u64)) (d : Nat) {n : Int} (h : (Lit.int .u64 n).wf = true) : P.keyLits (d + 1) t [.int .u64 n] = some [.int .u64 n]:=by
  unfold Program.keyLits
  rw [hu]
  simp [h]
theorem mapM_some {α β : Type} {g : α → Option β} : ∀ {l : List α},(∀ x ∈ l,∃ y,g x = some y) → ∃ r,l.mapM g = some r
  | [],_=>⟨[],rfl⟩
  | x :: r,h=>by
    obtain ⟨y,hy⟩:=h x (by simp)
    obtain ⟨z,hz⟩:=mapM_some (l:=r) fun q hq=>h q (by simp [hq])
    exact ⟨y :: z,by simp [List.mapM_cons,hy,hz]⟩
theorem kl_struct {P : Program} {t : TypeId} {fs : Array Field} {cs : List Value} {d : Nat} (hu : P.underlying t = some (.struct fs)) (hc : cs.length = P.cellsOf t) (hb : fs.all (·.name != "_") = true)
    (h : ∀ f ∈ fs.toList,∃ ls,P.keyLits d f.type ((cs.drop f.offset).take (P.cellsOf f.type)) = some ls) : ∃ ls,P.keyLits (d + 1) t cs = some ls:=by
  obtain ⟨r,hr⟩:=mapM_some h
  refine ⟨r.flatten,?_⟩
  unfold Program.keyLits
  rw [hu]
  simp only [hc,hb,and_self,if_true]
  rw [hr]; rfl
end Go.Proofs.YtjbbbkfdcegfmaaGreat
