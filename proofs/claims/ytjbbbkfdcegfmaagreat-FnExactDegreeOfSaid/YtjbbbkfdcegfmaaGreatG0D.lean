/- Calls as operations; own blocks given up between operations. -/
import Derived.Test.YtjbbbkfdcegfmaaGreatG0C

namespace Go.Proofs.YtjbbbkfdcegfmaaGreat
open Go Go.RowKit

section
variable {P : Program} {f : FuncId} {fn : Func} {c : Code} {args : List AV}

theorem ACall.of_body (hf : P.funcs[f]? = some fn) (hb : fn.body = some c) {H : Heap} {nx : Nat} {Q : AV → Heap → Nat → Prop}
    (h : AWP P c (fun e s=>isEnd e ∧ ∃ r H' nx',Fin P fn s r H' nx' ∧ Q r H' nx') { env:=lst args,heap:=H,nx:=nx,nt:=args.length + (fn.ntmps - args.length) }) : ACall P f args H nx Q:=by
  intro w0 w β vs h1 h3
  have hl:=VRL.length _ _ h3
  refine calls_of_wp hf hb (h w0 w β _ _ ⟨h1,rfl,by simp [hl],fun t=>lst_ok h3 t⟩ ?_)
  rintro e w' β' a' s' ⟨he,r,H',nx',hfin,hq⟩ hs' hm
  obtain ⟨v,β2,hv,hh,hvr,hm2,hk2⟩:=hfin _ _ _ _ hs'
  cases e <;> simp only [isEnd] at he <;> exact ⟨hs'.defers,v,hv,v,r,H',nx',β2,rfl,hq,hh,hvr,hm.1.trans hm2,hm.2.trans hk2⟩
end

/-- What is known of a function that is called. -/
def hasBody (P : Program) (f : FuncId) : Bool:=match P.funcs[f]? with
  | some fn => !(fn.name == "runtime.NumGoroutine") && fn.body.isSome
  | none=>false

section
variable {P : Program}
/-- A call through a function's value comes to the function with the arguments and with what the value took along. -/
theorem call_run {f : FuncId} {ρ : Operand → Value} {c : Call} {x : Operand} {caps : Array Value} {o : Oper} (hc : c.callee = .value x) (hρ : ρ x = .func (.func f) #[] caps) (ho : o.op = .call c) (w : World) :
    (execOp ρ o).run P w = (callFunc f (c.args.map ρ ++ caps)).run P w:=by
  simp [execOp,ho,resolve,hc,hρ,Deferred.ofValue,invoke]

theorem hasBody_run {f : FuncId} (h : hasBody P f = true) (args : Array Value) (w : World) : (callFunc f args).run P w = .ok (.enter f args) w:=by
  unfold hasBody at h
  split at h
  · rename_i fn hf
    simp only [Bool.and_eq_true,Bool.not_eq_true'] at h
    have h1 : fn.name ≠ "runtime.NumGoroutine" := by simpa using h.1
    obtain ⟨b,hb'⟩:=Option.isSome_iff_exists.1 h.2
    simp [callFunc,hf,h1,hb']
  · simp at h

/-- A function without a body that computes a value. -/
def FE (P : Program) (f : FuncId) (args : List AV) (r : AV) : Prop :=
  ∀ (w : World) (β : Nat → Option Loc) (b : Nat → Bool) (vs : List Value),VRL w β b args vs → ∃ v,(callFunc f vs.toArray).run P w = .ok (.value v) w ∧ VR w β b r v

theorem FC.weaken {f : FuncId} {args args' : List AV} {r r' : AV} (h : FC P f args r) (ha : ∀ w β b vs,VRL w β b args' vs → VRL w β b args vs) (hr : ∀ w β b v,VR w β b r v → VR w β b r' v) : FC P f args' r' :=
  fun w β b N vs h1 h2 h3=>(h w β b N vs h1 h2 (ha _ _ _ _ h3)).mono fun _ _ ⟨v,e,hv,hb⟩=>⟨v,e,fun b'=>hr _ _ _ _ (hv b'),hb⟩
theorem FC.args {f : FuncId} {args args' : List AV} {r : AV} (h : FC P f args r) (ha : ∀ w β b vs,VRL w β b args' vs → VRL w β b args vs) : FC P f args' r:=h.weaken ha fun _ _ _ _ h=>h
end

section
variable {P : Program} {ops : Array Oper} {K : St → Prop} {s : St} {o : Oper} {rest : List Oper}

/-- The arguments of a call, and the function's value. -/
theorem fnval {w : World} {β : Nat → Option Loc} {b : Nat → Bool} {f : FuncId} {cps : List AV} {v : Value} (h : VR w β b (.fn f cps) v) : ∃ vs : Array Value,v = .func (.func f) #[] vs ∧ VRL w β b cps vs.toList:=h

theorem callargs {w0 w : World} {β : Nat → Option Loc} {b : Nat → Bool} {a : Act} (hs : SRb w0 w β b s a) {c : Call} {cps args : List AV} {vs : Array Value} (hv : VRL w β b cps vs.toList) (ha : c.args.toList.map (ev s.env) ++ cps = args) :
    VRL w β b args (c.args.map a.eval ++ vs).toList:=by
  subst ha
  rw [Array.toList_append,Array.toList_map]
  exact VRL.append _ _ _ _ (evl_ok hs _) hv

theorem AOPS.fcall {f : FuncId} {c : Call} {x : Operand} {cps args : List AV} {r : AV} (h1 : FC P f args r) (ho : o.op = .call c) (hc : c.callee = .value x) (hx : ev s.env x = .fn f cps) (hb : hasBody P f = true) (ha : c.args.toList.map (ev s.env) ++ cps = args) (hg : agd ops s o = some true) (hd : dstOk s o.dst = true)
    (h : AOPS P ops rest K (puts s o.dst r)) : AOPS P ops (o :: rest) K s:=by
  intro w0 w β a Q hs hq
  refine wpList_step fun K' hK=>?_
  rw [agd_ok hs hg,if_pos rfl]
  have hxe:=ev_ok hs x
  rw [hx] at hxe
  obtain ⟨cvs,hcv,hcl⟩:=fnval hxe
  unfold Oper.wp
  rw [call_run hc hcv ho,hasBody_run hb,Oper.upon_enter]
  have h1':=h1 w β (bornB s.nx) s.nx (c.args.map a.eval ++ cvs).toList (fun id l hl=>⟨(hs.hr.dom id l hl).2.1,by have:=(hs.hr.dom id l hl).2.2; simpa [bornB] using this⟩) hs.hr.inj (callargs hs hcl ha)
  simp only [Array.toArray_toList] at h1'
  refine h1'.mono ?_
  rintro e w' ⟨v,rfl,hv,hbel⟩
  have hm:=Mon.below hs.hr hbel
  have hs1 : SR w0 w' β s a:=⟨hs.hr.belowS hbel,hs.defers,hs.size,fun t=>VR.mon hm _ _ (hs.env t)⟩
  refine hK _ _ (h w0 _ _ _ Q (hs1.put (hv _) hd) fun w'' β' a' s' k hs' hm'=>hq w'' β' a' s' k hs' ?_)
  unfold MonS at *
  rw [puts_nx] at hm'
  exact ⟨hm.trans hm'.1,hm'.2⟩

theorem AOPS.ecall {f : FuncId} {c : Call} {x : Operand} {cps args : List AV} {r : AV} (h1 : FE P f args r) (ho : o.op = .call c) (hc : c.callee = .value x) (hx : ev s.env x = .fn f cps) (ha : c.args.toList.map (ev s.env) ++ cps = args) (hg : agd ops s o = some true) (hd : dstOk s o.dst = true)
    (h : AOPS P ops rest K (puts s o.dst r)) : AOPS P ops (o :: rest) K s:=by
  refine AOPS.val r (fun w0 w β a hs=>?_) hg hd h
  have hxe:=ev_ok hs x
  rw [hx] at hxe
  obtain ⟨cvs,hcv,hcl⟩:=fnval hxe
  rw [call_run hc hcv ho]
  have h1':=h1 w β (bornB s.nx) (c.args.map a.eval ++ cvs).toList (callargs hs hcl ha)
  simpa only [Array.toArray_toList] using h1'

theorem AOPS.acall {f : FuncId} {c : Call} {x : Operand} {cps args : List AV} {Q' : AV → Heap → Nat → Prop} (h1 : ACall P f args s.heap s.nx Q') (ho : o.op = .call c) (hc : c.callee = .value x) (hx : ev s.env x = .fn f cps) (hb : hasBody P f = true) (ha : c.args.toList.map (ev s.env) ++ cps = args) (hg : agd ops s o = some true) (hd : dstOk s o.dst = true)
    (h : ∀ r H nx,Q' r H nx → AOPS P ops rest K (puts { s with heap:=H,nx:=nx } o.dst r)) : AOPS P ops (o :: rest) K s:=by
  intro w0 w β a Q hs hq
  refine wpList_step fun K' hK=>?_
  rw [agd_ok hs hg,if_pos rfl]
  have hxe:=ev_ok hs x
  rw [hx] at hxe
  obtain ⟨cvs,hcv,hcl⟩:=fnval hxe
  unfold Oper.wp
  rw [call_run hc hcv ho,hasBody_run hb,Oper.upon_enter]
  have h1':=h1 w0 w β (c.args.map a.eval ++ cvs).toList hs.hr (callargs hs hcl ha)
  simp only [Array.toArray_toList] at h1'
  refine h1'.mono ?_
  rintro e w' ⟨v,r,H',nx',β1,rfl,hQ,hh,hv,hm,hk⟩
  have hs1 : SR w0 w' β1 { s with heap:=H',nx:=nx' } a:=⟨hh,hs.defers,hs.size,fun t=>VR.mon hm _ _ (hs.env t)⟩
  refine hK _ _ (h r H' nx' hQ w0 _ _ _ Q (hs1.put hv (by cases hd' : o.dst with | none=>rfl | some t=>simpa [dstOk,hd'] using hd)) fun w'' β' a' s' k hs' hm'=>hq w'' β' a' s' k hs' ?_)
  unfold MonS at *
  rw [puts_nx] at hm'
  exact ⟨hm.trans hm'.1,hk.trans hm'.2⟩

theorem SR.freeze {w0 w : World} {β : Nat → Option Loc} {a : Act} (hs : SR w0 w β s a) {id z : Nat} {es : List (List AV)} (hH : s.heap id = some (z,es)) {e' : Nat → AV} (he : ∀ t,e' t = s.env t ∨ e' t = fz id es (s.env t)) {H' : Heap} (h0 : H' id = none)
    (hH' : ∀ i,i ≠ id → H' i = s.heap i ∨ ∃ z' es',s.heap i = some (z',es') ∧ H' i = some (z',fzLL id es es')) :
    SR w0 w (bupd β id none) { s with env:=e',heap:=H' } a:=by
  obtain ⟨l,hl,hb⟩:=hs.hr.blk id z es hH
  refine ⟨HR.freeze hs.hr hH h0 hH',hs.defers,hs.size,fun t=>?_⟩
  rcases he t with h | h
  · show VR w _ _ (e' t) _
    rw [h]; exact VR.mon (Mon.drop hs.hr id) _ _ (hs.env t)
  · show VR w _ _ (e' t) _
    rw [h]; exact fz_ok hs.hr hl hb _ _ (hs.env t)

theorem AOPS.freeze {id z : Nat} {es : List (List AV)} (hH : s.heap id = some (z,es)) {e' : Nat → AV} (he : ∀ t,e' t = s.env t ∨ e' t = fz id es (s.env t)) {H' : Heap} (h0 : H' id = none)
    (hH' : ∀ i,i ≠ id → H' i = s.heap i ∨ ∃ z' es',s.heap i = some (z',es') ∧ H' i = some (z',fzLL id es es')) {l : List Oper} (h : AOPS P ops l K { s with env:=e',heap:=H' }) : AOPS P ops l K s:=by
  intro w0 w β a Q hs hq
  refine h w0 w _ a Q (hs.freeze hH he h0 hH') fun w' β' a' s' k hs' hm=>hq w' β' a' s' k hs' ⟨(Mon.drop hs.hr id).trans hm.1,(KeepF.drop hs.hr (by rw [hH]; simp)).trans hm.2⟩

theorem AWP.freeze {c : Code} {K : Exit → St → Prop} {id z : Nat} {es : List (List AV)} (hH : s.heap id = some (z,es)) {e' : Nat → AV} (he : ∀ t,e' t = s.env t ∨ e' t = fz id es (s.env t)) {H' : Heap} (h0 : H' id = none)
    (hH' : ∀ i,i ≠ id → H' i = s.heap i ∨ ∃ z' es',s.heap i = some (z',es') ∧ H' i = some (z',fzLL id es es')) (h : AWP P c K { s with env:=e',heap:=H' }) : AWP P c K s:=by
  intro w0 w β a Q hs hq
  refine h w0 w _ a Q (hs.freeze hH he h0 hH') fun e w' β' a' s' k hs' hm=>hq e w' β' a' s' k hs' ⟨(Mon.drop hs.hr id).trans hm.1,(KeepF.drop hs.hr (by rw [hH]; simp)).trans hm.2⟩
end
end Go.Proofs.YtjbbbkfdcegfmaaGreat
