/- Is a row nil? Rows that are copied. -/
import Derived.Test.YtjbbbkfdcegfmaaGreatG0O

namespace Go.Proofs.YtjbbbkfdcegfmaaGreat
open Go Go.RowKit

section
variable {P : Program} {ops : Array Oper} {K : St → Prop} {s : St} {o : Oper} {rest : List Oper}
theorem AOPS.isnil {t ty e : TypeId} {x : Operand} {k : IntKind} {l : List Int} (ho : o.op = .binOp .eql t x (.const (.slice none 0 0)) ty) (hu : P.underlying t = some (.slice e)) (hx : ev s.env x = Wd k l) (hg : agd ops s o = some true) (hd : dstOk s o.dst = true)
    (h : ∀ q : Bool,(q = true → l = []) → AOPS P ops rest K (puts s o.dst (.bool q))) : AOPS P ops (o :: rest) K s:=by
  intro w0 w β a Q hs hq
  have hxe:=ev_ok hs x
  rw [hx] at hxe
  obtain ⟨A,cap,z,vss,hv,hcap,hvl,hr⟩:=hxe
  have hrun : ∀ q : Bool,(Op.equalIn 10000 t (a.eval x) (.slice none 0 0)).run P w = .ok q w → (execOp a.eval o).run P w = .ok (.value (.bool q)) w:=by
    intro q hq
    have hq' : (Op.equal t (a.eval x) (.slice none 0 0)).run P w = .ok q w:=hq
    obtain ⟨dst,op,type,pos,after,guard⟩:=o
    simp only [] at ho
    subst ho
    show (do pure (Next.value (← (do eqGuard .eql t x (.const (.slice none 0 0)) (a.eval x) (.slice none 0 0); binOp .eql t (a.eval x) (.slice none 0 0)))) : Sem Next).run P w = _
    have h1 : eqGuard .eql t x (.const (.slice none 0 0)) (a.eval x) (.slice none 0 0) = pure ():=by rw [hv]; rfl
    have h2 : binOp .eql t (a.eval x) (.slice none 0 0) = (do pure (.bool (← Op.equal t (a.eval x) (.slice none 0 0)))):=by rw [hv]; rfl
    rw [h1,h2]
    simp only [Sem.run_bind,Sem.run_pure,Result.andThen_ok,hq']
  have fin : ∀ q : Bool,(Op.equalIn 10000 t (a.eval x) (.slice none 0 0)).run P w = .ok q w → (q = true → l = []) → wpList P ops Q (o :: rest) a w:=by
    intro q h1 h2
    refine wpList_step fun K' hK=>?_
    rw [agd_ok hs hg,if_pos rfl]
    unfold Oper.wp
    rw [hrun q h1]
    refine hK _ _ (h q h2 w0 w β _ Q (hs.put (x:=.bool q) rfl hd) fun w' β' a' s' k hs' hm=>hq w' β' a' s' k hs' ?_)
    unfold MonS at *
    rwa [puts_nx] at hm
  cases A with
  | none =>
    refine fin true (by rw [hv]; exact eqIn_nsl 9999 hu _ _ _ _) fun _=>?_
    cases l with
    | nil=>rfl
    | cons y r =>
      obtain ⟨vs,hvs,hvc⟩:=VRLL.get _ _ 0 [.int k y] hvl rfl
      obtain ⟨u0,r0,e0,_,_⟩:=hvc
      obtain ⟨hz,hrd⟩:=hr 0 vs hvs
      obtain ⟨g,o',ha,_,_⟩:=hrd 0 u0 (by rw [e0]; rfl)
      simp at ha
  | some A=>exact fin false (by rw [hv]; exact eqIn_sl 9999 hu _ _ _ _ _) (by simp)
end
theorem src_Wd' {P : Program} {s : St} {t1 el e : TypeId} {k : IntKind} {l : List Int} (he : elOf P t1 = some e) : aSrc P s t1 el (Wd k l) = some (wd k l):=src_Wd (by rw [he]; rfl)
theorem wd_app2 (k : IntKind) (l : List Int) : (∀ c ∈ wd k l,c.length = 1 ∧ ∀ x ∈ c,avOne x = true) = True:=by simp [wd,avOne]
end Go.Proofs.YtjbbbkfdcegfmaaGreat
