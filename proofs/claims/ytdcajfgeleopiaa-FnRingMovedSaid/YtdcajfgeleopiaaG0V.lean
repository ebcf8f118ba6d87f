/- Calls that hand back a new block of one's own; rows that are marked. -/
import Derived.Test.YtdcajfgeleopiaaG0U

namespace Go.Proofs.Ytdcajfgeleopiaa
open Go Go.RowKit

/-- A heap of one block. -/
def hone (id z : Nat) (es : List (List AV)) : Heap := fun i => if i = id then some (z, es) else none
theorem hrestr_one {H : Heap} {id z : Nat} {es : List (List AV)} (h : H id = some (z, es)) : hrestr (fun i => decide (i = id)) H = hone id z es := by
  funext i; simp only [hrestr, hone, decide_eq_true_eq]; split
  · rename_i e; rw [e, h]
  · rfl
/-- What a call hands back: a value that speaks of one new block. -/
def own1 (nx z : Nat) (es : List (List AV)) (mk : Nat → AV) : AV → Heap → Nat → Prop := fun r H nx' => ∃ id, nx ≤ id ∧ id < nx' ∧ r = mk id ∧ H = hone id z es
theorem Fin.own1 {P : Program} {fn : Func} {s : St} {r : AV} {id z : Nat} {es : List (List AV)} (h : Fin P fn s r s.heap s.nx) (hH : s.heap id = some (z, es)) : Fin P fn s r (hone id z es) s.nx := by
  rw [← hrestr_one hH]; exact h.restr _
section
variable {P : Program} {ops : Array Oper} {K : St → Prop} {s : St} {o : Oper} {rest : List Oper}
theorem AOPS.ocallL (k : Nat) {f : FuncId} {c : Call} {x : Operand} {cps args : List AV} {z : Nat} {es : List (List AV)} {mk : Nat → AV} (h1 : ACall P f args (fun _ => none) s.nx (Ytdcajfgeleopiaa.own1 s.nx z es mk)) (ho : o.op = .call c) (hc : c.callee = .value x) (hx : ev s.env x = .fn f cps) (hb : hasBody P f = true)
    (ha : (c.args.toList.map (ev s.env) ++ cps).map (lv s.heap k) = args) (hr : (∀ id, s.nx ≤ id → nwr s.nx (mk id)) ∧ ∀ l ∈ es, nwrL s.nx l) (hg : agd ops s o = some true) (hd : dstOk s o.dst = true)
    (h : ∀ id nx', s.nx ≤ id → id < nx' → AOPS P ops rest K (puts { s with heap := hupd s.heap id (some (z, es)), nx := nx' } o.dst (mk id))) : AOPS P ops (o :: rest) K s := by
  refine AOPS.old fun hold => ?_
  refine AOPS.lacall k h1 ho hc hx hb ha (fun r H nx' hq => ?_) hg hd (fun r H nx' hq hle => ?_)
  · obtain ⟨id, q1, q2, rfl, rfl⟩ := hq
    refine ⟨hr.1 id q1, fun i q hi l hl => ?_⟩
    simp only [hone] at hi
    split at hi
    · simp only [Option.some.injEq] at hi; subst hi; exact hr.2 l hl
    · simp at hi
  · obtain ⟨id, q1, q2, rfl, rfl⟩ := hq
    have e : hjoin s.nx s.heap (hone id z es) = hupd s.heap id (some (z, es)) := by
      funext i; simp only [hjoin, hone, hupd]
      split
      · rename_i hi; rw [if_neg (by omega)]
      · rename_i hi
        split
        · rfl
        · cases hh : s.heap i with
          | none => rfl
          | some q => have := hold i q hh; omega
    rw [e]
    exact h id nx' q1 q2
end
section
variable {P : Program} {f : FuncId} {args : List AV}
/-- A new block of one's own, given up at once. -/
theorem FC.of_own {z : Nat} {es : List (List AV)} {mk : Nat → AV} {r : AV} (hi : idfL args) (hr : idf r) (hz : ∀ id, fz id es (mk id) = r) (h : ∀ nx, ACall P f args (fun _ => none) nx (Ytdcajfgeleopiaa.own1 nx z es mk)) : FC P f args r := by
  intro w β b N vs h1 h2 h3
  have h3' := VRL.idf (β' := β) (b' := bornB N) (fun _ h => h) _ _ hi h3
  refine (h N w w β vs ⟨Below.refl _ _, fun id z es he => by simp at he, fun id l hl => ⟨fun hn => absurd rfl hn, (h1 id l hl).1, by simp [bornB, (h1 id l hl).2]⟩, h2⟩ h3').mono ?_
  rintro e w' ⟨v, r', H', nx', β1, rfl, ⟨id, q1, q2, rfl, rfl⟩, hh, hv, hm, hk⟩
  obtain ⟨l, hl, hb⟩ := hh.blk id z es (by simp [hone])
  have hf := fz_ok hh hl hb _ _ hv
  rw [hz] at hf
  refine ⟨v, rfl, fun b' => VR.idf (fun g hg i l' hl' hgg => ?_) _ _ hr hf, hh.below⟩
  have hki := hk i l' hl' (h1 i l' hl').1
  have hne : i ≠ id := by have := (h1 i l' hl').2; omega
  exact hg i l' (by simp [bupd, hne, hki]) hgg
end
section
variable {P : Program} {ops : Array Oper} {K : St → Prop} {s : St} {o : Oper} {rest : List Oper}
/-- Is a row nil? -/
theorem AOPS.isnilG {t ty e : TypeId} {x : Operand} {c0 : AV} {cs : List AV} {r : List (List AV)} (ho : o.op = .binOp .eql t x (.const (.slice none 0 0)) ty) (hu : P.underlying t = some (.slice e)) (hx : ev s.env x = .isl ((c0 :: cs) :: r)) (hg : agd ops s o = some true) (hd : dstOk s o.dst = true)
    (h : AOPS P ops rest K (puts s o.dst (.bool false))) : AOPS P ops (o :: rest) K s := by
  intro w0 w β a Q hs hq
  have hxe := ev_ok hs x
  rw [hx] at hxe
  obtain ⟨A, cap, z, vss, hv, hcap, hvl, hr⟩ := hxe
  have hrun : ∀ q : Bool, (Op.equalIn 10000 t (a.eval x) (.slice none 0 0)).run P w = .ok q w → (execOp a.eval o).run P w = .ok (.value (.bool q)) w := by
    intro q hq
    have hq' : (Op.equal t (a.eval x) (.slice none 0 0)).run P w = .ok q w := hq
    obtain ⟨dst, op, type, pos, after, guard⟩ := o
    simp only [] at ho
    subst ho
    show (do pure (Next.value (← (do eqGuard .eql t x (.const (.slice none 0 0)) (a.eval x) (.slice none 0 0); binOp .eql t (a.eval x) (.slice none 0 0)))) : Sem Next).run P w = _
    have h1 : eqGuard .eql t x (.const (.slice none 0 0)) (a.eval x) (.slice none 0 0) = pure () := by rw [hv]; rfl
    have h2 : binOp .eql t (a.eval x) (.slice none 0 0) = (do pure (.bool (← Op.equal t (a.eval x) (.slice none 0 0)))) := by rw [hv]; rfl
    rw [h1, h2]
    simp only [Sem.run_bind, Sem.run_pure, Result.andThen_ok, hq']
  cases A with
  | none =>
    exfalso
    obtain ⟨vs, hvs, hvc⟩ := VRLL.get _ _ 0 (c0 :: cs) hvl rfl
    obtain ⟨u0, r0, e0, _, _⟩ := hvc
    obtain ⟨hz, hrd⟩ := hr 0 vs hvs
    obtain ⟨g, o', ha, _, _⟩ := hrd 0 u0 (by rw [e0]; rfl)
    simp at ha
  | some A =>
    refine wpList_step fun K' hK => ?_
    rw [agd_ok hs hg, if_pos rfl]
    unfold Oper.wp
    rw [hrun false (by rw [hv]; exact eqIn_sl 9999 hu _ _ _ _ _)]
    refine hK _ _ (h w0 w β _ Q (hs.put (x := .bool false) rfl hd) fun w' β' a' s' k hs' hm => hq w' β' a' s' k hs' ?_)
    unfold MonS at *
    rwa [puts_nx] at hm
end
/-- Rows of a block, made by their numbers. -/
def mkR (f : Nat → List AV) (n : Nat) : List (List AV) := (List.range n).map f
end Go.Proofs.Ytdcajfgeleopiaa
