/- Calls: contracts between abstract values; a function's body. -/
import Derived.Test.YtjbbbkfdcegfmaaGreatG0A

namespace Go.Proofs.YtjbbbkfdcegfmaaGreat
open Go Go.RowKit

mutual
/-- A value that speaks of no block of one's own. -/
def idf : AV → Prop
  | .ptr _ _ _=>False
  | .osl _ _ _=>False
  | .ip cs=>idfL cs
  | .isl es=>idfLL es
  | .agg cs=>idfL cs
  | .tup cs=>idfL cs
  | .fn _ cs=>idfL cs
  | .bool _=>True
  | .int _ _=>True
  | .str _=>True
  | .nil=>True
  | .nsl=>True
  | .raw _=>True
  | .junk=>True
def idfL : List AV → Prop
  | []=>True
  | x :: r=>idf x ∧ idfL r
def idfLL : List (List AV) → Prop
  | []=>True
  | x :: r=>idfL x ∧ idfLL r
end

theorem idfLL_iff : ∀ (l : List (List AV)),idfLL l ↔ ∀ x ∈ l,idfL x
  | []=>by simp [idfLL]
  | x :: r=>by simp [idfLL,idfLL_iff r]

section
variable {w : World} {β β' : Nat → Option Loc} {b b' : Nat → Bool}
theorem Rd.less (h : ∀ g,notown β g → notown β' g) {a : Option Addr} {k : Nat} {u : Value} (hr : Rd w β a k u) : Rd w β' a k u:=by
  obtain ⟨g,o,h1,h2,h3⟩:=hr; exact ⟨g,o,h1,h2,h g h3⟩
mutual
theorem VR.idf (h : ∀ g,notown β g → notown β' g) : ∀ (x : AV) (v : Value),idf x → VR w β b x v → VR w β' b' x v
  | .bool _,_,_,k=>k
  | .int _ _,_,_,k=>k
  | .str _,_,_,k=>k
  | .nil,_,_,k=>k
  | .nsl,_,_,k=>k
  | .raw _,_,_,k=>k
  | .junk,_,_,_=>trivial
  | .ip cells,_,hi,⟨g,o,vs,hv,hl,hr⟩=>⟨g,o,vs,hv,VRL.idf h cells vs hi hl,fun j u hu=>(hr j u hu).less h⟩
  | .isl es,_,hi,⟨a,cap,z,vss,hv,hc,hl,hr⟩=>⟨a,cap,z,vss,hv,hc,VRLL.idf h es vss hi hl,fun e vs he=>⟨(hr e vs he).1,fun j u hu=>((hr e vs he).2 j u hu).less h⟩⟩
  | .agg cells,_,hi,⟨vs,hv,hl⟩=>⟨vs,hv,VRL.idf h cells _ hi hl⟩
  | .tup xs,_,hi,⟨vs,hv,hl⟩=>⟨vs,hv,VRL.idf h xs _ hi hl⟩
  | .fn _ caps,_,hi,⟨vs,hv,hl⟩=>⟨vs,hv,VRL.idf h caps _ hi hl⟩
theorem VRL.idf (h : ∀ g,notown β g → notown β' g) : ∀ (xs : List AV) (vs : List Value),idfL xs → VRL w β b xs vs → VRL w β' b' xs vs
  | [],_,_,k=>k
  | c :: cs,_,hi,⟨v,r,e,hv,hr⟩=>⟨v,r,e,VR.idf h c v hi.1 hv,VRL.idf h cs r hi.2 hr⟩
theorem VRLL.idf (h : ∀ g,notown β g → notown β' g) : ∀ (xs : List (List AV)) (vs : List (List Value)),idfLL xs → VRLL w β b xs vs → VRLL w β' b' xs vs
  | [],_,_,k=>k
  | c :: cs,_,hi,⟨v,r,e,hv,hr⟩=>⟨v,r,e,VRL.idf h c v hi.1 hv,VRLL.idf h cs r hi.2 hr⟩
end
end

/-- A call that only computes: of these arguments it makes this value, and leaves what is there as it is. -/
def FC (P : Program) (f : FuncId) (args : List AV) (r : AV) : Prop :=
  ∀ (w : World) (β : Nat → Option Loc) (b : Nat → Bool) (N : Nat) (vs : List Value),
    (∀ id l,β id = some l → l.g < w.heap.size ∧ id < N) → (∀ i j l l',β i = some l → β j = some l' → l.g = l'.g → i = j) → VRL w β b args vs →
    Calls P f vs.toArray w fun e w'=>∃ v,e = .returned v ∧ (∀ b',VR w' β b' r v) ∧ Below w.heap.size w w'

/-- A call from a state of one's own blocks. -/
def ACall (P : Program) (f : FuncId) (args : List AV) (H : Heap) (nx : Nat) (Q : AV → Heap → Nat → Prop) : Prop :=
  ∀ (w0 w : World) (β : Nat → Option Loc) (vs : List Value),HR w0 w β (bornB nx) H → VRL w β (bornB nx) args vs →
    Calls P f vs.toArray w fun e w'=>∃ v r H' nx' β',e = .returned v ∧ Q r H' nx' ∧ HR w0 w' β' (bornB nx') H' ∧ VR w' β' (bornB nx') r v ∧ Mon w β (bornB nx) w' β' (bornB nx') ∧ KeepF w0 β β'

theorem ACall.mono {P : Program} {f : FuncId} {args : List AV} {H : Heap} {nx : Nat} {Q Q' : AV → Heap → Nat → Prop} (h : ACall P f args H nx Q) (hq : ∀ r H nx,Q r H nx → Q' r H nx) : ACall P f args H nx Q' :=
  fun w0 w β vs h1 h2=>(h w0 w β vs h1 h2).mono fun _ _ ⟨v,r,H',nx',β',e,q,k⟩=>⟨v,r,H',nx',β',e,hq _ _ _ q,k⟩

section
variable {P : Program} {w0 w w' : World} {β : Nat → Option Loc} {b : Nat → Bool} {H : Heap}
theorem Mon.below (h : HR w0 w β b H) (hb : Below w.heap.size w w') : Mon w β b w' β b :=
  ⟨hb.size,fun g hg hn=>⟨hb.block g hg,hn⟩,fun g e he=>by rw [shape_of_block (hb.block g (shape_lt he))]; exact he,fun _ h=>h,fun _ _ _ h=>h⟩
theorem HR.belowS (h : HR w0 w β b H) (hb : Below w.heap.size w w') : HR w0 w' β b H :=
  ⟨h.below.trans (hb.mono h.below.size),fun id z es he=>by
      obtain ⟨l,hl,hbr⟩:=h.blk id z es he
      exact ⟨l,hl,hbr.mon (Mon.below h hb) (hb.block l.g (h.dom id l hl).2.1)⟩,
   fun id l hl=>⟨(h.dom id l hl).1,Nat.lt_of_lt_of_le (h.dom id l hl).2.1 hb.size,(h.dom id l hl).2.2⟩,h.inj⟩
end

/-- The arguments as slots. -/
def lst (l : List AV) : Nat → AV:=fun t=>(l[t]?).getD .junk

/-- What a call hands back: the results' slots and variables. -/
def aRes1 (P : Program) (s : St) : ResultVar → Option AV
  | .tmp t=>some (s.env t)
  | .cell x t=>match s.env x with
    | .ptr id e o=>aLd P s t (.ptr id e o)
    | _=>none
def aResL (P : Program) (s : St) : List ResultVar → Option (List AV)
  | []=>some []
  | x :: r=>match aRes1 P s x,aResL P s r with
    | some y,some ys=>some (y :: ys)
    | _,_=>none
def aRes (P : Program) (s : St) (l : List ResultVar) : Option AV:=match aResL P s l with
  | some [x]=>some x
  | some xs=>some (.tup xs)
  | none=>none

section
variable {P : Program} {w0 w : World} {β : Nat → Option Loc} {s : St} {a : Act}

theorem aRes1_ok (hs : SR w0 w β s a) {f : ResultVar → Sem Value} (f1 : ∀ t,f (.tmp t) = pure (a.tmps.getD t undef)) (f2 : ∀ c t,f (.cell c t) = do loadVar t (← asAddr (a.tmps.getD c undef)))
    {x : ResultVar} {r : AV} (h : aRes1 P s x = some r) : ∃ v,(f x).run P w = .ok v w ∧ VR w β (bornB s.nx) r v:=by
  cases x with
  | tmp t=>simp only [aRes1,Option.some.injEq] at h; subst h; exact ⟨_,by rw [f1]; rfl,hs.env t⟩
  | cell c t =>
    simp only [aRes1] at h
    split at h
    · rename_i id e o hx
      have hc:=hs.env c
      rw [hx] at hc
      have hl : (s.heap id).isSome = true:=by
        cases hh : s.heap id with
        | none=>simp [aLd,hh] at h
        | some q=>rfl
      obtain ⟨⟨z,es⟩,hz⟩:=Option.isSome_iff_exists.mp hl
      obtain ⟨l,hl',_⟩:=hs.hr.blk id z es hz
      have hv:=hc.2.2 l hl'
      obtain ⟨v,hrun,hr⟩:=aLd_ok (P:=P) hs (x:=.ptr id e o) hc h
      refine ⟨v,?_,hr⟩
      rw [hv] at hrun
      simp only [Instr.loadAt,Instr.sureAddr,Sem.run_bind,Sem.run_pure,Result.andThen_ok] at hrun
      simp only [f2,hv,asAddr,Sem.run_bind,Sem.run_pure,Result.andThen_ok,hrun]
    · simp at h

theorem aResL_ok (hs : SR w0 w β s a) {f : ResultVar → Sem Value} (f1 : ∀ t,f (.tmp t) = pure (a.tmps.getD t undef)) (f2 : ∀ c t,f (.cell c t) = do loadVar t (← asAddr (a.tmps.getD c undef))) :
    ∀ (l : List ResultVar) (rs : List AV),aResL P s l = some rs → ∃ vs,(l.mapM f).run P w = .ok vs w ∧ VRL w β (bornB s.nx) rs vs
  | [],rs,h=>by simp only [aResL,Option.some.injEq] at h; subst h; exact ⟨[],by simp,rfl⟩
  | x :: l,rs,h=>by
    unfold aResL at h
    split at h
    · rename_i y ys h1 h2
      simp only [Option.some.injEq] at h; subst h
      obtain ⟨v,e1,r1⟩:=aRes1_ok hs f1 f2 h1
      obtain ⟨vs,e2,r2⟩:=aResL_ok hs f1 f2 l ys h2
      exact ⟨v :: vs,by simp only [List.mapM_cons,Sem.run_bind,e1,e2,Result.andThen_ok,Sem.run_pure],v,vs,rfl,r1,r2⟩
    · simp at h

theorem aRes_ok (hs : SR w0 w β s a) {fn : Func} {r : AV} (h : aRes P s fn.results.toList = some r) : ∃ v,(results fn a.tmps).run P w = .ok v w ∧ VR w β (bornB s.nx) r v:=by
  have key : ∀ xs,aResL P s fn.results.toList = some xs → ∃ vs : Array Value,(results fn a.tmps).run P w = .ok (if h : vs.size = 1 then vs[0] else .tuple vs) w ∧ VRL w β (bornB s.nx) xs vs.toList:=by
    intro xs hx
    have e2 : fn.results = fn.results.toList.toArray:=by simp
    unfold results
    generalize hf : (fun x : ResultVar=>_ : ResultVar → Sem Value) = f
    obtain ⟨vs,e1,r1⟩:=aResL_ok (P:=P) hs (f:=f) (fun t=>by rw [← hf]) (fun c t=>by rw [← hf]) _ xs hx
    refine ⟨vs.toArray,?_,by simpa using r1⟩
    rw [e2,List.mapM_toArray]
    simp only [Sem.run_bind,Sem.run_map,e1,Result.andThen_ok,Sem.run_pure]
  unfold aRes at h
  split at h
  · rename_i x hx
    simp only [Option.some.injEq] at h; subst h
    obtain ⟨vs,e1,r1⟩:=key _ hx
    obtain ⟨v,hv,hr⟩:=vrl1 r1
    refine ⟨v,?_,hr⟩
    have : vs = #[v]:=by apply Array.ext'; simpa using hv
    subst this
    rw [e1]; rfl
  · rename_i xs hne hx
    simp only [Option.some.injEq] at h; subst h
    obtain ⟨vs,e1,r1⟩:=key _ hx
    have hl:=VRL.length _ _ r1
    refine ⟨.tuple vs,?_,vs,rfl,r1⟩
    rw [e1,dif_neg]
    intro h1
    simp only [Array.length_toList] at hl
    obtain ⟨x,rfl⟩:=List.length_eq_one_iff.mp (show xs.length = 1 by omega)
    exact hne x rfl
  · simp at h
end
end Go.Proofs.YtjbbbkfdcegfmaaGreat
