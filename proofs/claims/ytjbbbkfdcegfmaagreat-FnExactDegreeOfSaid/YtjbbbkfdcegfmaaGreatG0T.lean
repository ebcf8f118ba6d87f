/- Own blocks lent to a call for its time. -/
import Derived.Test.YtjbbbkfdcegfmaaGreatG0S

namespace Go.Proofs.YtjbbbkfdcegfmaaGreat
open Go Go.RowKit

def βn : Nat → Option Loc:=fun _=>none
theorem notown_n (g : Nat) : notown βn g:=fun _ _ h=>by simp [βn] at h
/-- What a call sees of a value whose blocks are lent to it: they are not written while it runs. -/
def lv (H : Heap) : Nat → AV → AV
  | _,.bool c=>.bool c
  | _,.int k n=>.int k n
  | _,.str s=>.str s
  | _,.nil=>.nil
  | _,.nsl=>.nsl
  | _,.raw v=>.raw v
  | _,.junk=>.junk
  | 0,_=>.junk
  | k + 1,.osl i st n=>match H i with
    | some (_,es)=>if st + n ≤ es.length then .isl (((es.drop st).take n).map (List.map (lv H k))) else .junk
    | none=>.junk
  | k + 1,.isl es=>.isl (es.map (List.map (lv H k)))
  | k + 1,.agg cs=>.agg (cs.map (lv H k))
  | k + 1,.tup cs=>.tup (cs.map (lv H k))
  | k + 1,.fn f cs=>.fn f (cs.map (lv H k))
  | k + 1,.ptr i e off=>match H i with
    | some (_,es)=>match es[e]? with
      | some cs=>.ip ((cs.drop off).map (lv H k))
      | none=>.junk
    | none=>.junk
  | k + 1,.ip cs=>.ip (cs.map (lv H k))
theorem VRL.mapf {w : World} {β β' : Nat → Option Loc} {b : Nat → Bool} {f : AV → AV} (hf : ∀ x v,VR w β b x v → VR w β' b (f x) v) : ∀ (xs : List AV) (vs : List Value),VRL w β b xs vs → VRL w β' b (xs.map f) vs
  | [],_,h=>h
  | c :: cs,_,⟨v,r,e,hv,hr⟩=>⟨v,r,e,hf c v hv,VRL.mapf hf cs r hr⟩
theorem VRLL.mapf {w : World} {β β' : Nat → Option Loc} {b : Nat → Bool} {f : AV → AV} (hf : ∀ x v,VR w β b x v → VR w β' b (f x) v) : ∀ (xs : List (List AV)) (vs : List (List Value)),VRLL w β b xs vs → VRLL w β' b (xs.map (List.map f)) vs
  | [],_,h=>h
  | c :: cs,_,⟨v,r,e,hv,hr⟩=>⟨v,r,e,VRL.mapf hf c v hv,VRLL.mapf hf cs r hr⟩
theorem Rd.n {w : World} {β : Nat → Option Loc} {a : Option Addr} {k : Nat} {u : Value} (h : Rd w β a k u) : Rd w βn a k u:=by
  obtain ⟨g,o,e,hc,_⟩:=h
  exact ⟨g,o,e,hc,notown_n g⟩
section
variable {w0 w : World} {β : Nat → Option Loc} {b : Nat → Bool} {H : Heap}
theorem lv_ok (h : HR w0 w β b H) : ∀ (k : Nat) (x : AV) (v : Value),VR w β b x v → VR w βn b (lv H k x) v
  | k,.bool _,_,hx=>by cases k <;> exact hx
  | k,.int _ _,_,hx=>by cases k <;> exact hx
  | k,.str _,_,hx=>by cases k <;> exact hx
  | k,.nil,_,hx=>by cases k <;> exact hx
  | k,.nsl,_,hx=>by cases k <;> exact hx
  | k,.raw _,_,hx=>by cases k <;> exact hx
  | k,.junk,_,_=>by cases k <;> trivial
  | 0,.ptr _ _ _,_,_=>trivial
  | 0,.ip _,_,_=>trivial
  | 0,.isl _,_,_=>trivial
  | 0,.osl _ _ _,_,_=>trivial
  | 0,.agg _,_,_=>trivial
  | 0,.tup _,_,_=>trivial
  | 0,.fn _ _,_,_=>trivial
  | k + 1,.agg cs,_,⟨vs,e,hl⟩=>⟨vs,e,VRL.mapf (lv_ok h k) cs _ hl⟩
  | k + 1,.tup cs,_,⟨vs,e,hl⟩=>⟨vs,e,VRL.mapf (lv_ok h k) cs _ hl⟩
  | k + 1,.fn _ cs,_,⟨vs,e,hl⟩=>⟨vs,e,VRL.mapf (lv_ok h k) cs _ hl⟩
  | k + 1,.ip cs,_,⟨g,o,vs,e,hl,hr⟩=>⟨g,o,vs,e,VRL.mapf (lv_ok h k) cs _ hl,fun j u hu=>(hr j u hu).n⟩
  | k + 1,.isl es,_,⟨a,cap,z,vss,e,hc,hl,hr⟩=>⟨a,cap,z,vss,by simpa using e,by simpa using hc,VRLL.mapf (lv_ok h k) es _ hl,fun i vs hi=>⟨(hr i vs hi).1,fun j u hu=>((hr i vs hi).2 j u hu).n⟩⟩
  | k + 1,.ptr i e off,v,hx=>by
    unfold lv
    split
    · rename_i z es hH
      split
      · rename_i cs hcs
        obtain ⟨l,hl,hz,c,elem,hg,vss,hvl,hcell⟩:=h.blk i z es hH
        obtain ⟨vs,hvs,hvr⟩:=VRLL.get _ _ e cs hvl hcs
        refine ⟨l.g,l.o + e * l.z + off,vs.drop off,hx.2.2 l hl,VRL.mapf (lv_ok h k) _ _ (VRL.drop off _ _ hvr),fun j u hu=>⟨l.g,l.o + e * l.z + off,rfl,?_,notown_n _⟩⟩
        have:=(hcell e vs hvs).2 (off + j) u (by simpa using hu)
        simp only [World.cell?,hg,Option.isSome_none,Bool.false_eq_true,if_false]
        rw [← this,hz]; congr 1; omega
      · trivial
    · trivial
  | k + 1,.osl i st n,v,hx=>by
    unfold lv
    split
    · rename_i z es hH
      split
      · rename_i hle
        obtain ⟨l,hl,hz,c,elem,hg,vss,hvl,hcell⟩:=h.blk i z es hH
        obtain ⟨a,cap,hv,hnc,hor⟩:=hx.2.2 l hl
        have hlen : (((es.drop st).take n).map (List.map (lv H k))).length = n:=by simp; omega
        have hR:=Rds.of_block h hl hg hcell
        refine ⟨a,cap,z,(vss.drop st).take n,by rw [hlen]; exact hv,by rw [hlen]; exact hnc,VRLL.mapf (lv_ok h k) _ _ (VRLL.take n _ _ (VRLL.drop st _ _ hvl)),?_⟩
        rcases hor with h0 | ⟨ha,_⟩
        · intro e vs he
          have : n = 0:=by omega
          subst this
          simp at he
        · rw [ha,hz]
          have hR2:=Rds.drop (a:=a) hR st n
          exact fun i vs hi=>⟨(hR2 i vs hi).1,fun j u hu=>((hR2 i vs hi).2 j u hu).n⟩
      · trivial
    · trivial
end

mutual
/-- Speaks of no block. -/
def atm : AV → Prop
  | .bool _=>True
  | .int _ _=>True
  | .str _=>True
  | .nil=>True
  | .nsl=>True
  | .raw _=>True
  | .junk=>True
  | .agg cs=>atmL cs
  | .tup cs=>atmL cs
  | _=>False
def atmL : List AV → Prop
  | []=>True
  | x :: r=>atm x ∧ atmL r
/-- Speaks of new blocks only. -/
def nwr (nx : Nat) : AV → Prop
  | .bool _=>True
  | .int _ _=>True
  | .str _=>True
  | .nil=>True
  | .nsl=>True
  | .raw _=>True
  | .junk=>True
  | .osl i _ _=>nx ≤ i
  | .ptr i _ _=>nx ≤ i
  | .agg cs=>nwrL nx cs
  | .tup cs=>nwrL nx cs
  | .fn _ cs=>nwrL nx cs
  | _=>False
def nwrL (nx : Nat) : List AV → Prop
  | []=>True
  | x :: r=>nwr nx x ∧ nwrL nx r
end
mutual
theorem atm_any {w w' : World} {β β' : Nat → Option Loc} {b b' : Nat → Bool} : ∀ (x : AV) (v : Value),atm x → VR w β b x v → VR w' β' b' x v
  | .bool _,_,_,k=>k
  | .int _ _,_,_,k=>k
  | .str _,_,_,k=>k
  | .nil,_,_,k=>k
  | .nsl,_,_,k=>k
  | .raw _,_,_,k=>k
  | .junk,_,_,_=>trivial
  | .agg cs,_,h,⟨vs,e,hl⟩=>⟨vs,e,atmL_any cs _ h hl⟩
  | .tup cs,_,h,⟨vs,e,hl⟩=>⟨vs,e,atmL_any cs _ h hl⟩
  | .ptr _ _ _,_,h,_=>h.elim
  | .ip _,_,h,_=>h.elim
  | .isl _,_,h,_=>h.elim
  | .osl _ _ _,_,h,_=>h.elim
  | .fn _ _,_,h,_=>h.elim
theorem atmL_any {w w' : World} {β β' : Nat → Option Loc} {b b' : Nat → Bool} : ∀ (xs : List AV) (vs : List Value),atmL xs → VRL w β b xs vs → VRL w' β' b' xs vs
  | [],_,_,k=>k
  | c :: cs,_,h,⟨v,r,e,hv,hr⟩=>⟨v,r,e,atm_any c v h.1 hv,atmL_any cs r h.2 hr⟩
end
mutual
theorem nwr_any {w : World} {β β' : Nat → Option Loc} {b : Nat → Bool} {nx : Nat} (hβ : ∀ i,nx ≤ i → β' i = β i) : ∀ (x : AV) (v : Value),nwr nx x → VR w β b x v → VR w β' b x v
  | .bool _,_,_,k=>k
  | .int _ _,_,_,k=>k
  | .str _,_,_,k=>k
  | .nil,_,_,k=>k
  | .nsl,_,_,k=>k
  | .raw _,_,_,k=>k
  | .junk,_,_,_=>trivial
  | .agg cs,_,h,⟨vs,e,hl⟩=>⟨vs,e,nwrL_any hβ cs _ h hl⟩
  | .tup cs,_,h,⟨vs,e,hl⟩=>⟨vs,e,nwrL_any hβ cs _ h hl⟩
  | .fn _ cs,_,h,⟨vs,e,hl⟩=>⟨vs,e,nwrL_any hβ cs _ h hl⟩
  | .ptr i _ _,_,h,k=>⟨k.1,k.2.1,fun l hl=>k.2.2 l (by rw [hβ i h] at hl; exact hl)⟩
  | .osl i _ _,_,h,k=>⟨k.1,k.2.1,fun l hl=>k.2.2 l (by rw [hβ i h] at hl; exact hl)⟩
  | .ip _,_,h,_=>h.elim
  | .isl _,_,h,_=>h.elim
theorem nwrL_any {w : World} {β β' : Nat → Option Loc} {b : Nat → Bool} {nx : Nat} (hβ : ∀ i,nx ≤ i → β' i = β i) : ∀ (xs : List AV) (vs : List Value),nwrL nx xs → VRL w β b xs vs → VRL w β' b xs vs
  | [],_,_,k=>k
  | c :: cs,_,h,⟨v,r,e,hv,hr⟩=>⟨v,r,e,nwr_any hβ c v h.1 hv,nwrL_any hβ cs r h.2 hr⟩
end
theorem nwrLL_any {w : World} {β β' : Nat → Option Loc} {b : Nat → Bool} {nx : Nat} (hβ : ∀ i,nx ≤ i → β' i = β i) : ∀ (xs : List (List AV)) (vs : List (List Value)),(∀ l ∈ xs,nwrL nx l) → VRLL w β b xs vs → VRLL w β' b xs vs
  | [],_,_,k=>k
  | c :: cs,_,h,⟨v,r,e,hv,hr⟩=>⟨v,r,e,nwrL_any hβ c v (h c (by simp)) hv,nwrLL_any hβ cs r (fun l hl=>h l (by simp [hl])) hr⟩
/-- Two heaps: the old numbers' blocks, and the new ones'. -/
def hjoin (nx : Nat) (H H' : Heap) : Heap:=fun i=>if i < nx then H i else H' i

section
variable {P : Program} {ops : Array Oper} {K : St → Prop} {s : St} {o : Oper} {rest : List Oper}
theorem AOPS.lcall (k : Nat) {f : FuncId} {c : Call} {x : Operand} {cps args : List AV} {r : AV} (h1 : FC P f args r) (ho : o.op = .call c) (hc : c.callee = .value x) (hx : ev s.env x = .fn f cps) (hb : hasBody P f = true)
    (ha : (c.args.toList.map (ev s.env) ++ cps).map (lv s.heap k) = args) (hr : atm r) (hg : agd ops s o = some true) (hd : dstOk s o.dst = true) (h : AOPS P ops rest K (puts s o.dst r)) : AOPS P ops (o :: rest) K s:=by
  intro w0 w β a Q hs hq
  refine wpList_step fun K' hK=>?_
  rw [agd_ok hs hg,if_pos rfl]
  have hxe:=ev_ok hs x
  rw [hx] at hxe
  obtain ⟨cvs,hcv,hcl⟩:=fnval hxe
  unfold Oper.wp
  rw [call_run hc hcv ho,hasBody_run hb,Oper.upon_enter]
  have hl:=VRL.mapf (lv_ok hs.hr k) _ _ (callargs (c:=c) hs hcl rfl)
  rw [ha] at hl
  have h1':=h1 w βn (bornB s.nx) s.nx (c.args.map a.eval ++ cvs).toList (fun id l hl=>by simp [βn] at hl) (fun i j l l' hl=>by simp [βn] at hl) hl
  simp only [Array.toArray_toList] at h1'
  refine h1'.mono ?_
  rintro e w' ⟨v,rfl,hv,hbel⟩
  have hm:=Mon.below hs.hr hbel
  have hs1 : SR w0 w' β s a:=⟨hs.hr.belowS hbel,hs.defers,hs.size,fun t=>VR.mon hm _ _ (hs.env t)⟩
  refine hK _ _ (h w0 _ _ _ Q (hs1.put (atm_any r v hr (hv (bornB s.nx))) hd) fun w'' β' a' s' k hs' hm'=>hq w'' β' a' s' k hs' ?_)
  unfold MonS at *
  rw [puts_nx] at hm'
  exact ⟨hm.trans hm'.1,hm'.2⟩
theorem AOPS.lacall (k : Nat) {f : FuncId} {c : Call} {x : Operand} {cps args : List AV} {Q' : AV → Heap → Nat → Prop} (h1 : ACall P f args (fun _=>none) s.nx Q') (ho : o.op = .call c) (hc : c.callee = .value x) (hx : ev s.env x = .fn f cps) (hb : hasBody P f = true)
    (ha : (c.args.toList.map (ev s.env) ++ cps).map (lv s.heap k) = args) (hr : ∀ r H nx',Q' r H nx' → nwr s.nx r ∧ ∀ i q,H i = some q → ∀ l ∈ q.2,nwrL s.nx l) (hg : agd ops s o = some true) (hd : dstOk s o.dst = true)
    (h : ∀ r H nx',Q' r H nx' → s.nx ≤ nx' → AOPS P ops rest K (puts { s with heap:=hjoin s.nx s.heap H,nx:=nx' } o.dst r)) : AOPS P ops (o :: rest) K s:=by
  intro w0 w β a Q hs hq
  refine wpList_step fun K' hK=>?_
  rw [agd_ok hs hg,if_pos rfl]
  have hxe:=ev_ok hs x
  rw [hx] at hxe
  obtain ⟨cvs,hcv,hcl⟩:=fnval hxe
  unfold Oper.wp
  rw [call_run hc hcv ho,hasBody_run hb,Oper.upon_enter]
  have hl:=VRL.mapf (lv_ok hs.hr k) _ _ (callargs (c:=c) hs hcl rfl)
  rw [ha] at hl
  have h1':=h1 w w βn (c.args.map a.eval ++ cvs).toList ⟨Below.refl _ _,fun id z es he=>by simp at he,fun id l hl=>by simp [βn] at hl,fun i j l l' hl=>by simp [βn] at hl⟩ hl
  simp only [Array.toArray_toList] at h1'
  refine h1'.mono ?_
  rintro e w' ⟨v,r,H',nx',β1,rfl,hQ,hh,hv,hm,_⟩
  obtain ⟨n1,n2⟩:=hr r H' nx' hQ
  have hnx : ∀ i,i < s.nx → i < nx':=fun i hi=>by
    have:=hm.born i (by simp [bornB,hi]); simpa [bornB] using this
  have hle : s.nx ≤ nx':=by
    rcases Nat.lt_or_ge nx' s.nx with h' | h'
    · have:=hnx nx' h'; omega
    · exact h'
  let β2 : Nat → Option Loc:=fun i=>if i < s.nx then β i else β1 i
  have hb2 : ∀ i,s.nx ≤ i → β2 i = β1 i:=fun i hi=>by simp only [β2]; rw [if_neg (by omega)]
  have hk1 : ∀ g,g < w.heap.size → w'.heap[g]? = w.heap[g]? ∧ notown β1 g:=fun g hg=>hm.keep g hg (notown_n g)
  have hmon : Mon w β (bornB s.nx) w' β2 (bornB nx'):=by
    refine ⟨hm.size,fun g hg hn=>⟨(hk1 g hg).1,fun i l hl=>?_⟩,hm.shape,hm.born,fun i l hi hl=>?_⟩
    · simp only [β2] at hl
      split at hl
      · exact hn i l hl
      · exact (hk1 g hg).2 i l hl
    · have : i < s.nx:=by simpa [bornB] using hi
      simp only [β2] at hl
      rw [if_pos this] at hl; exact hl
  have hHR : HR w0 w' β2 (bornB nx') (hjoin s.nx s.heap H'):=by
    refine ⟨hs.hr.below.trans (hh.below.mono hs.hr.below.size),fun i z es he=>?_,fun i l hl=>?_,fun i j l l' hi hj hg=>?_⟩
    · simp only [hjoin] at he
      split at he
      · rename_i hi
        obtain ⟨l,hl,hbr⟩:=hs.hr.blk i z es he
        exact ⟨l,by simp only [β2]; rw [if_pos hi]; exact hl,hbr.mon hmon (hk1 l.g (hs.hr.dom i l hl).2.1).1⟩
      · rename_i hi
        obtain ⟨l,hl,hz,c,elem,hc,vss,hvl,hcs⟩:=hh.blk i z es he
        exact ⟨l,by rw [hb2 i (by omega)]; exact hl,hz,c,elem,hc,vss,nwrLL_any hb2 _ _ (n2 i _ he) hvl,hcs⟩
    · simp only [β2] at hl
      split at hl
      · rename_i hi
        obtain ⟨d1,d2,d3⟩:=hs.hr.dom i l hl
        refine ⟨fun hn=>d1 ?_,Nat.lt_of_lt_of_le d2 hm.size,by simp [bornB]; exact hnx i hi⟩
        simpa [hjoin,hi] using hn
      · rename_i hi
        obtain ⟨d1,d2,d3⟩:=hh.dom i l hl
        refine ⟨fun hn=>?_,d2,d3⟩
        have:=d1 (by simpa [hjoin,hi] using hn)
        have:=hs.hr.below.size
        omega
    · simp only [β2] at hi hj
      split at hi
      · rename_i ii
        have hg1:=(hs.hr.dom i l hi).2.1
        split at hj
        · exact hs.hr.inj i j l l' hi hj hg
        · exact absurd hg.symm ((hk1 l.g hg1).2 j l' hj)
      · split at hj
        · rename_i jj
          have hg1:=(hs.hr.dom j l' hj).2.1
          exact absurd hg ((hk1 l'.g hg1).2 i l hi)
        · exact hh.inj i j l l' hi hj hg
  have hs1 : SR w0 w' β2 { s with heap:=hjoin s.nx s.heap H',nx:=nx' } a:=⟨hHR,hs.defers,hs.size,fun t=>VR.mon hmon _ _ (hs.env t)⟩
  have hkf : KeepF w0 β β2:=fun i l hl _=>by
    have : i < s.nx:=by have:=(hs.hr.dom i l hl).2.2; simpa [bornB] using this
    simp only [β2]; rw [if_pos this]; exact hl
  refine hK _ _ (h r H' nx' hQ hle w0 _ _ _ Q (hs1.put (nwr_any hb2 r v n1 hv) (by cases hd' : o.dst with | none=>rfl | some t=>simpa [dstOk,hd'] using hd)) fun w'' β' a' s' k hs' hm'=>hq w'' β' a' s' k hs' ?_)
  unfold MonS at *
  rw [puts_nx] at hm'
  exact ⟨hmon.trans hm'.1,hkf.trans hm'.2⟩
/-- A region without calls, and what follows. -/
theorem AWP.sr {id : Nat} {l : List Oper} {y : Code} {K : Exit → St → Prop} {s' : St} (h1 : runOps P l.toArray l s = some s') (h : AWP P y K s') : AWP P (.seq (.region id l.toArray false) y) K s :=
  AWP.seqk fun _ hK=>AWP.region (AOPS.all h1 (hK _ h))
end
end Go.Proofs.YtjbbbkfdcegfmaaGreat
