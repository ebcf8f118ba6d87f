/- Operations one after the other in one function; bodies with what is to be shown behind a name. -/
import Derived.Test.YtjbbbkfdcegfmaaGreatG0D

namespace Go.Proofs.YtjbbbkfdcegfmaaGreat
open Go Go.RowKit

theorem puts_some (e : Nat → AV) (h : Heap) (n t d : Nat) (v : AV) : puts ⟨e,h,n,t⟩ (some d) v = ⟨upd e d v,h,n,t⟩:=rfl
theorem puts_none (s : St) (v : AV) : puts s none v = s:=rfl
theorem hupd_eq (H : Heap) (d : Nat) (v : Option (Nat × List (List AV))) : hupd H d v d = v:=by simp [hupd]
theorem hupd_ne (H : Heap) (d t : Nat) (v : Option (Nat × List (List AV))) (h : t ≠ d) : hupd H d v t = H t:=by simp [hupd,h]

/-- One operation, none a call of a function. -/
def stepOp (P : Program) (ops : Array Oper) (s : St) (o : Oper) : Option St :=
  match agd ops s o with
  | some false=>if dstOk s o.dst = true then some (puts s o.dst (.tup [])) else none
  | some true=>if dstOk s o.dst = true then (match opVal P s o.op with
    | some r=>some (puts s o.dst r)
    | none=>match opNew P s.env s.nx o.op with
      | some (r,z,es)=>some (puts { s with heap:=hupd s.heap s.nx (some (z,es)),nx:=s.nx + 1 } o.dst r)
      | none=>match opSto P s o.op with
        | some H=>if o.dst = none then some { s with heap:=H } else none
        | none=>none) else none
  | none=>none

def runOps (P : Program) (ops : Array Oper) : List Oper → St → Option St
  | [],s=>some s
  | o :: r,s=>match stepOp P ops s o with
    | some s'=>runOps P ops r s'
    | none=>none

section
variable {P : Program} {ops : Array Oper} {K : St → Prop} {s : St} {o : Oper} {rest : List Oper}

theorem AOPS.stepo {s' : St} (h1 : stepOp P ops s o = some s') (h : AOPS P ops rest K s') : AOPS P ops (o :: rest) K s:=by
  unfold stepOp at h1
  split at h1
  · rename_i hg
    split at h1
    · rename_i hd
      simp only [Option.some.injEq] at h1; subst h1
      exact AOPS.off hg hd h
    · simp at h1
  · rename_i hg
    split at h1
    · rename_i hd
      split at h1
      · rename_i r hr
        simp only [Option.some.injEq] at h1; subst h1
        exact AOPS.opval r hr hg hd h
      · split at h1
        · rename_i r z es hr
          simp only [Option.some.injEq] at h1; subst h1
          exact AOPS.opnew r z es hr hg hd h
        · split at h1
          · rename_i H hH
            split at h1
            · rename_i hn
              simp only [Option.some.injEq] at h1; subst h1
              exact AOPS.opsto H hH hg hn h
            · simp at h1
          · simp at h1
    · simp at h1
  · simp at h1

theorem AOPS.runo {s' : St} : ∀ {pre : List Oper} {s : St},runOps P ops pre s = some s' → AOPS P ops rest K s' → AOPS P ops (pre ++ rest) K s
  | [],s,h1,h=>by simp only [runOps,Option.some.injEq] at h1; subst h1; exact h
  | o :: r,s,h1,h=>by
    unfold runOps at h1
    split at h1
    · rename_i s2 h2
      exact AOPS.stepo h2 (AOPS.runo h1 h)
    · simp at h1

/-- All operations of a region. -/
theorem AOPS.all {l : List Oper} {s' : St} (h1 : runOps P ops l s = some s') (h : K s') : AOPS P ops l K s:=by
  have:=AOPS.runo (rest:=[]) h1 (AOPS.nil h)
  simpa using this
end

section
variable {P : Program} {f : FuncId} {fn : Func} {c : Code} {args : List AV}
theorem FC.body (hf : P.funcs[f]? = some fn) (hb : fn.body = some c) {r : AV} (hi : idfL args) (hr : idf r) (nt : Nat) (hn : args.length + (fn.ntmps - args.length) = nt)
    (h : ∀ (nx : Nat) (K : Exit → St → Prop),(∀ e s H' nx',isEnd e → Fin P fn s r H' nx' → K e s) → AWP P c K { env:=lst args,heap:=fun _=>none,nx:=nx,nt:=nt }) : FC P f args r:=by
  subst hn
  exact FC.of_body hf hb hi hr fun nx=>h nx _ fun e s H' nx' he hfin=>⟨he,H',nx',hfin⟩
theorem ACall.body (hf : P.funcs[f]? = some fn) (hb : fn.body = some c) {H : Heap} {nx : Nat} {Q : AV → Heap → Nat → Prop} (nt : Nat) (hn : args.length + (fn.ntmps - args.length) = nt)
    (h : ∀ (K : Exit → St → Prop),(∀ e s r H' nx',isEnd e → Fin P fn s r H' nx' → Q r H' nx' → K e s) → AWP P c K { env:=lst args,heap:=H,nx:=nx,nt:=nt }) : ACall P f args H nx Q:=by
  subst hn
  exact ACall.of_body hf hb (h _ fun e s r H' nx' he hfin hq=>⟨he,r,H',nx',hfin,hq⟩)

end

/-- A call that only computes, and hands back a new block: elements that speak of no block. -/
def FO (P : Program) (f : FuncId) (args : List AV) (z : Nat) (es : List (List AV)) : Prop :=
  ∀ (w : World) (β : Nat → Option Loc) (b : Nat → Bool) (N : Nat) (vs : List Value),
    (∀ id l,β id = some l → l.g < w.heap.size ∧ id < N) → (∀ i j l l',β i = some l → β j = some l' → l.g = l'.g → i = j) → VRL w β b args vs →
    Calls P f vs.toArray w fun e w'=>∃ v l,e = .returned v ∧ Below w.heap.size w w' ∧ w.heap.size ≤ l.g ∧ l.g < w'.heap.size ∧
      (∀ (β' : Nat → Option Loc) (b' : Nat → Bool) (id : Nat),β' id = some l → b' id = true → VR w' β' b' (.osl id 0 es.length) v) ∧ ∃ c elem,w'.heap[l.g]? = some (.cells c elem (0,0)) ∧ l.z = z ∧
        ∃ vss,(∀ (β' : Nat → Option Loc) (b' : Nat → Bool),VRLL w' β' b' es vss) ∧ ∀ e vs,vss[e]? = some vs → vs.length = z ∧ ∀ j u,vs[j]? = some u → c[l.o + e * z + j]? = some u

mutual
/-- Of plain numbers only. -/
def pln : AV → Prop
  | .int _ _=>True
  | .bool _=>True
  | _=>False
end
theorem pln_any {w w' : World} {β β' : Nat → Option Loc} {b b' : Nat → Bool} {x : AV} {v : Value} (h : pln x) (k : VR w β b x v) : VR w' β' b' x v:=by
  cases x <;> simp only [pln] at h <;> exact k
theorem plnL_any {w w' : World} {β β' : Nat → Option Loc} {b b' : Nat → Bool} : ∀ {xs : List AV} {vs : List Value},(∀ x ∈ xs,pln x) → VRL w β b xs vs → VRL w' β' b' xs vs
  | [],_,_,k=>k
  | c :: cs,_,h,⟨v,r,e,hv,hr⟩=>⟨v,r,e,pln_any (h c (by simp)) hv,plnL_any (fun x hx=>h x (by simp [hx])) hr⟩
theorem plnLL_any {w w' : World} {β β' : Nat → Option Loc} {b b' : Nat → Bool} : ∀ {xs : List (List AV)} {vs : List (List Value)},(∀ l ∈ xs,∀ x ∈ l,pln x) → VRLL w β b xs vs → VRLL w' β' b' xs vs
  | [],_,_,k=>k
  | c :: cs,_,h,⟨v,r,e,hv,hr⟩=>⟨v,r,e,plnL_any (h c (by simp)) hv,plnLL_any (fun x hx=>h x (by simp [hx])) hr⟩

section
variable {P : Program} {fn : Func} {c : Code} {f : FuncId} {args : List AV}
theorem FO.body (hf : P.funcs[f]? = some fn) (hb : fn.body = some c) {z : Nat} {es : List (List AV)} (hi : idfL args) (hr : ∀ l ∈ es,∀ x ∈ l,pln x) (nt : Nat) (hn : args.length + (fn.ntmps - args.length) = nt)
    (h : ∀ (nx : Nat) (K : Exit → St → Prop),(∀ e s id H' nx',isEnd e → Fin P fn s (.osl id 0 es.length) H' nx' → H' id = some (z,es) → K e s) → AWP P c K { env:=lst args,heap:=fun _=>none,nx:=nx,nt:=nt }) : FO P f args z es:=by
  subst hn
  intro w β b N vs h1 h2 h3
  have hl:=VRL.length _ _ h3
  have h3':=VRL.idf (β':=β) (b':=bornB N) (fun _ h=>h) _ _ hi h3
  refine calls_of_wp hf hb (h N (fun e s=>isEnd e ∧ ∃ id H' nx',Fin P fn s (.osl id 0 es.length) H' nx' ∧ H' id = some (z,es)) (fun e s id H' nx' he h1 h2=>⟨he,id,H',nx',h1,h2⟩) w w β _ _ ⟨⟨Below.refl _ _,fun id z es he=>by simp at he,fun id l hl=>⟨fun hn=>absurd rfl hn,(h1 id l hl).1,by simp [bornB,(h1 id l hl).2]⟩,h2⟩,rfl,by simp [hl],fun t=>lst_ok h3' t⟩ ?_)
  rintro e w' β' a' s' ⟨he,id,H',nx',hfin,hH⟩ hs' hm
  obtain ⟨v,β2,hv,hh,hvr,hm2,hk2⟩:=hfin _ _ _ _ hs'
  obtain ⟨l,hl2,hz,c2,elem,hc2,vss,hvl,hcs⟩:=hh.blk id z es hH
  obtain ⟨d1,d2,d3⟩:=hh.dom id l hl2
  have hrest : ∃ v' l,Ending.returned v = .returned v' ∧ Below w.heap.size w w' ∧ w.heap.size ≤ l.g ∧ l.g < w'.heap.size ∧
      (∀ (β' : Nat → Option Loc) (b' : Nat → Bool) (id : Nat),β' id = some l → b' id = true → VR w' β' b' (.osl id 0 es.length) v') ∧ ∃ c elem,w'.heap[l.g]? = some (.cells c elem (0,0)) ∧ l.z = z ∧
        ∃ vss,(∀ (β' : Nat → Option Loc) (b' : Nat → Bool),VRLL w' β' b' es vss) ∧ ∀ e vs,vss[e]? = some vs → vs.length = z ∧ ∀ j u,vs[j]? = some u → c[l.o + e * z + j]? = some u:=by
    refine ⟨v,l,rfl,hh.below,d1 (by rw [hH]; simp),d2,fun β3 b3 id3 h3 hb3=>⟨hb3,hvr.2.1,fun l3 hl3=>?_⟩,c2,elem,hc2,hz,vss,fun β3 b3=>plnLL_any hr hvl,hcs⟩
    rw [h3] at hl3; simp only [Option.some.injEq] at hl3; subst hl3
    exact hvr.2.2 l hl2
  cases e <;> simp only [isEnd] at he <;> exact ⟨hs'.defers,v,hv,hrest⟩
end
end Go.Proofs.YtjbbbkfdcegfmaaGreat
