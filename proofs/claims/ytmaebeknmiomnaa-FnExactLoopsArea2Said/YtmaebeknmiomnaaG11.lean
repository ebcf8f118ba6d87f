/- Walks: FnExactLoopsArea2: the statement. -/
import Derived.Test.YtmaebeknmiomnaaG10
import Derived.Test.YtmaebeknmiomnaaRows
import Derived.WalkKit
import Derived.ProofKit
import Derived.OpenShut
import Derived.ShutString
import Derived.ChangeOld
import Derived.Below
import Derived.SizedLaws
import Derived.Carry

namespace Go.Proofs.Ytmaebeknmiomnaa
open Go Go.RowKit
set_option linter.unusedSimpArgs false
set_option linter.unusedVariables false
set_option maxRecDepth 100000
attribute [local simp] List.getElem?_cons_zero List.getElem?_cons_succ List.getElem?_toArray runOps stepOp.eq_def agd.eq_def dstOk.eq_def opVal.eq_def opNew.eq_def opSto.eq_def ev.eq_def cv.eq_def puts_some puts_none upd_ap lst.eq_def aBin.eq_def aUn.eq_def aBi_str aBi_isl aBi_osl aBi_nsl aBi_max aBi_min aBi_max3 aConv.eq_def aLd.eq_def aLoad.eq_def aField.eq_def aFld.eq_def aIdx_isl aIdx_osl aSlc_isl aSlc_osl aSlc_str aSlc_nsl bnd.eq_def evs_nil evs_cons aBuild.eq_def aFill splice.eq_def cells_agg cells_int cells_bool cells_str cells_nil cells_nsl cells_isl cells_osl cells_ptr cells_ip cells_fn cells_Wd one_int one_bool one_str one_nil one_nsl one_isl one_osl one_ptr one_ip one_fn one_Wd aSets hupd_eq hupd_ne wrap_i64s wrap_u64s wrap_u32s wrap_u8s wd_getD wd_set wd_len wd_replicate wd_one wd_fold fz_osl hupd_same aSix.eq_def aEqS.eq_def aEqB_bool aEqB_nsl aEqB_nil

open Go.Proofs.Ytmaebeknmiomnaa

section
variable {H : Type} {enc : TypeId × Value → H} {w : World} {base : Nat} {sp : Nat → Bool} {held : Bool}
theorem open_u64 {fuel : Nat} {cs : List Value} {x : DataW H × List MemPlace} (h : DataW.trod enc Try.prog w base sp held fuel 24 cs = some x) : ∃ n, cs = [.int .u64 n] ∧ U64 n := by
  obtain ⟨n, h1, _, h3⟩ := DataW.trod_int Try.underlying24 h
  refine ⟨n, h1, ?_⟩
  unfold U64
  simp [Lit.wf, IntKind.min, IntKind.max, IntKind.signed, IntKind.bits] at h3
  omega
theorem open_w4 {fuel : Nat} {cs : List Value} {x : DataW H × List MemPlace} (h : DataW.trod enc Try.prog w base sp held fuel 243 cs = some x) : ∃ v : W4, v.ok ∧ cs = [.int .u64 v.a, .int .u64 v.b, .int .u64 v.c, .int .u64 v.d] := by
  obtain ⟨xs, n, _, rfl, hl, hlen, hf⟩ := DataW.trod_struct Try.underlying243 h
  have hl4 : cs.length = 4 := hl.trans (by kernel_rfl)
  have h1 : Try.prog.cellsOf 24 = 1 := by kernel_rfl
  match cs, hl4, xs, hlen with
  | [c0, c1, c2, c3], _, [y0, y1, y2, y3], _ =>
    have f0 : DataW.trod enc Try.prog w base sp held n 24 [c0] = some y0 := by have h := hf 0 _ rfl; simpa [h1] using h
    have f1 : DataW.trod enc Try.prog w base sp held n 24 [c1] = some y1 := by have h := hf 1 _ rfl; simpa [h1] using h
    have f2 : DataW.trod enc Try.prog w base sp held n 24 [c2] = some y2 := by have h := hf 2 _ rfl; simpa [h1] using h
    have f3 : DataW.trod enc Try.prog w base sp held n 24 [c3] = some y3 := by have h := hf 3 _ rfl; simpa [h1] using h
    obtain ⟨n0, e0, k0⟩ := open_u64 f0
    obtain ⟨n1, e1, k1⟩ := open_u64 f1
    obtain ⟨n2, e2, k2⟩ := open_u64 f2
    obtain ⟨n3, e3, k3⟩ := open_u64 f3
    simp only [List.cons.injEq, and_true] at e0 e1 e2 e3
    subst e0 e1 e2 e3
    exact ⟨⟨n0, n1, n2, n3⟩, ⟨k0, k1, k2, k3⟩, rfl⟩
theorem open_pt {fuel : Nat} {cs : List Value} {x : DataW H × List MemPlace} (h : DataW.trod enc Try.prog w base sp held fuel 245 cs = some x) : ∃ p : Pt, p.ok ∧ VRL w β0 b0 p.cells cs := by
  obtain ⟨xs, n, _, rfl, hl, hlen, hf⟩ := DataW.trod_struct Try.underlying245 h
  have hl4 : cs.length = 12 := hl.trans (by kernel_rfl)
  have h1 : Try.prog.cellsOf 243 = 4 := by kernel_rfl
  match cs, hl4, xs, hlen with
  | [c0, c1, c2, c3, c4, c5, c6, c7, c8, c9, c10, c11], _, [y0, y1, y2], _ =>
    have f0 : DataW.trod enc Try.prog w base sp held n 243 [c0, c1, c2, c3] = some y0 := by have h := hf 0 _ rfl; simpa [h1] using h
    have f1 : DataW.trod enc Try.prog w base sp held n 243 [c4, c5, c6, c7] = some y1 := by have h := hf 1 _ rfl; simpa [h1] using h
    have f2 : DataW.trod enc Try.prog w base sp held n 243 [c8, c9, c10, c11] = some y2 := by have h := hf 2 _ rfl; simpa [h1] using h
    obtain ⟨v0, k0, e0⟩ := open_w4 f0
    obtain ⟨v1, k1, e1⟩ := open_w4 f1
    obtain ⟨v2, k2, e2⟩ := open_w4 f2
    simp only [List.cons.injEq, and_true] at e0 e1 e2
    obtain ⟨rfl, rfl, rfl, rfl⟩ := e0
    obtain ⟨rfl, rfl, rfl, rfl⟩ := e1
    obtain ⟨rfl, rfl, rfl, rfl⟩ := e2
    refine ⟨⟨v0, v1, v2⟩, ⟨k0, k1, k2⟩, ?_⟩
    exact ⟨_, _, rfl, rfl, _, _, rfl, rfl, _, _, rfl, rfl, _, _, rfl, rfl, _, _, rfl, rfl, _, _, rfl, rfl, _, _, rfl, rfl, _, _, rfl, rfl, _, _, rfl, rfl, _, _, rfl, rfl, _, _, rfl, rfl, _, _, rfl, rfl, rfl⟩
theorem open_loop {fuel : Nat} {cs : List Value} {x : DataW H × List MemPlace} (h : DataW.trod enc Try.prog w base sp held fuel 172 cs = some x) : ∃ l : List Pt, ((∀ p ∈ l, p.ok) ∧ l.length ≤ maxLen) ∧ VRL w β0 b0 (ltC l) cs := by
  obtain ⟨xs, n, _, rfl, hl, hlen, hf⟩ := DataW.trod_struct Try.underlying172 h
  have hl4 : cs.length = 1 := hl.trans (by kernel_rfl)
  have h1 : Try.prog.cellsOf 170 = 1 := by kernel_rfl
  match cs, hl4, xs, hlen with
  | [c0], _, [y0], _ =>
    have f0 : DataW.trod enc Try.prog w base sp held n 170 [c0] = some y0 := by have h := hf 0 _ rfl; simpa [h1] using h
    obtain ⟨l, hq, hlm, v, hv, hr⟩ := open_rows (z := 12) Try.underlying170 (by kernel_rfl) (by omega) Pt.ok Pt.cells (fun _ _ _ h => open_pt h) f0
    simp only [List.cons.injEq, and_true] at hv
    subst hv
    exact ⟨l, ⟨hq, hlm⟩, c0, [], rfl, hr, rfl⟩
theorem open_loops {fuel : Nat} {cs : List Value} {x : DataW H × List MemPlace} (h : DataW.trod enc Try.prog w base sp held fuel 90 cs = some x) : ∃ L : List (List Pt), (∀ l ∈ L, (∀ p ∈ l, p.ok) ∧ l.length ≤ maxLen) ∧ L.length ≤ maxLen ∧ ∃ v, cs = [v] ∧ VR w β0 b0 (lsA L) v :=
  open_rows (z := 1) Try.underlying90 (by kernel_rfl) (by omega) _ ltC (fun _ _ _ h => open_loop h) h
end

namespace fnExactLoopsArea2
open Go.ChangeShapes Go.WideShapes Go.ChangeAt Go.RowKit
theorem walk (L : List (List Pt)) (hL : ∀ l ∈ L, (∀ p ∈ l, p.ok) ∧ l.length ≤ maxLen) (hl : L.length ≤ maxLen) (w : World) (v0 : Value) (hvv0 : VR w β0 b0 (lsA L) v0) :
    Calls Try.prog 10 #[v0] w fun e w' => e = .returned (.bool true) ∧ Below w.heap.size w w' := by
  have h := fnExactLoopsArea2_fc L (fun l hm => (hL l hm).1) hl (fun l hm => (hL l hm).2) w β0 b0 0 [v0] (fun id l h => by simp [β0] at h) (fun i j l l' h => by simp [β0] at h) ⟨v0, _, rfl, hvv0, rfl⟩
  refine h.mono ?_
  rintro e w' ⟨u, rfl, hu, hb⟩
  have : u = .bool true := hu b0
  subst this
  exact ⟨rfl, hb⟩
theorem own : ownKnob Try.prog.godebug = none := by kernel_rfl
theorem laidOut : laidOutB Try.prog = true := by kernel_rfl
set_option maxRecDepth 100000 in
theorem lifted (os : Os) (started : os.Started) (H : Type) (enc : TypeId × Value → H) :
    ReturnsInHanded {} Try.checked os 10 .any (Rows.fnExactLoopsArea2Spec.pre6 enc Try.prog Try.f10 Rows.fnExactLoopsArea2Row.domain false) (Rows.fnExactLoopsArea2Spec.post enc Try.prog Try.f10 false true false false) := by
  refine returnsInHanded_of_change_sized (C := Try.checked) own started (by kernel_rfl) Try.func10
    (ChangeSpec.witness6 (enc := enc) (C := Try.checked) false ⟨#[], #[.slice none 0 0], []⟩ 8 (by kernel_rfl) (by kernel_rfl) (by kernel_rfl) (by kernel_rfl)) ?_
  intro W base args ds gs before hval0 hW hcnd hsz0 _
  have hval : ∀ (j : Nat) t v, Try.f10.params[j]? = some t → args[j]? = some v → Value.okWide Try.prog W .any base t v := hval0
  have hW' := hW
  obtain ⟨p, q, hA0, hV, rfl, hfz, hnd⟩ := hW
  have hA : DataW.TrodAll enc Try.prog W 0 (fun _ => true) true Try.f10.params.toList args.toList ds p := hA0
  rw [Try.params10] at hA hval
  obtain ⟨v0, vs0, d0, ds0, p0, q0, hargs0, rfl, rfl, h0, r0⟩ := trodAll_cons hA
  obtain ⟨rfl, rfl, rfl⟩ := trodAll_nil r0
  obtain rfl : args = #[v0] := by cases args; simp_all
  obtain ⟨rfl, rfl⟩ := trodVars_none hV
  obtain ⟨a0, len0, cap0, rfl⟩ := okWide_slice Try.underlying90 (hval 0 90 v0 rfl rfl)
  have k0 := h0
  have lt0 : ∀ x ∈ p0, x.block < W.heap.size := by obtain ⟨m, hm⟩ := k0; exact DataW.trod_lt m _ _ _ hm
  obtain ⟨fuel0, hf0⟩ := h0
  obtain ⟨L, hL, hl, w0, hv0, hvv0⟩ := open_loops hf0
  have hs0 : w0 = .slice a0 len0 cap0 := by simpa [Value.cells] using hv0.symm
  subst hs0
  clear hA0 hval0 hsz0
  refine (walk L hL hl W _ hvv0).mono fun e W' ⟨he, bel⟩ => ?_
  subst he
  exact ⟨_, rfl, _, _, _, [], _, [], hW', trodAll_mk1 (shut_bool Try.underlying4 _), (trodAll_cons_mk (Below.trod laidOut (by kernel_rfl) (of_decide_eq_true (by kernel_rfl)) k0 bel lt0) trodAll_mk0), rfl, bel.frame _, fun h => by cases h⟩
theorem grp : (Try.pinned.checked.prog.mayEnter && (Rows.fnExactLoopsArea2Row.lifted == Try.pinned.checked.prog.liftsFinal) && (Try.pinned.checked.prog.make == some Rows.fnExactLoopsArea2Row.make)) = true := by kernel_rfl
theorem closed : joinedFacts Try.pinned.checked.prog 10 Try.f10 Rows.fnExactLoopsArea2Spec Rows.fnExactLoopsArea2Row = true := by
  have h := grp
  simp only [Bool.and_eq_true] at h
  obtain ⟨⟨h1, h2⟩, h3⟩ := h
  unfold joinedFacts
  rw [h1, h2, h3]
  clear h1 h2 h3
  refine Eq.trans (b := true) ?_ rfl
  kernel_rfl
theorem over : Rows.fnExactLoopsArea2Row.holds Try.pinned (OpenSpec.ofChange Rows.fnExactLoopsArea2Spec) :=
  OpenClaim.holds_of_wide 10 Try.f10 rfl rfl rfl rfl rfl rfl rfl ⟨rfl, rfl, rfl, rfl, rfl⟩ rfl rfl rfl rfl rfl (by kernel_rfl) Try.func10 closed
    (of_decide_eq_true (by kernel_rfl)) (by unfold Func.isWrapper; first | (rw [if_pos (by decide +kernel)]; kernel_rfl) | (rw [if_neg (by decide +kernel)]; exact ⟨rfl, rfl⟩))
    (fun os started H enc _ => lifted os started H enc)
end fnExactLoopsArea2
/-- The statement. -/
theorem fnExactLoopsArea2_holds : Rows.FnExactLoopsArea2Said := fnExactLoopsArea2.over



end Go.Proofs.Ytmaebeknmiomnaa
