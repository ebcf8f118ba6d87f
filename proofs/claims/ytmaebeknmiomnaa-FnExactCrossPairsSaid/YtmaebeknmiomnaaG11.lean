/- Walks: FnExactCrossPairs: the statement. -/
import Derived.Test.YtmaebeknmiomnaaG10
import Derived.Test.YtmaebeknmiomnaaRows
import Derived.WalkKit
import Derived.ProofKit
import Derived.OpenShut
import Derived.ShutString
import Derived.ChangeOld
import Derived.Below
import Derived.SizedLaws
import Derived.Carry

namespace Go.Proofs.Ytmaebeknmiomnaa
open Go Go.RowKit
set_option linter.unusedSimpArgs false
set_option linter.unusedVariables false
set_option maxRecDepth 100000
attribute [local simp] List.getElem?_cons_zero List.getElem?_cons_succ List.getElem?_toArray runOps stepOp.eq_def agd.eq_def dstOk.eq_def opVal.eq_def opNew.eq_def opSto.eq_def ev.eq_def cv.eq_def puts_some puts_none upd_ap lst.eq_def aBin.eq_def aUn.eq_def aBi_str aBi_isl aBi_osl aBi_nsl aBi_max aBi_min aBi_max3 aConv.eq_def aLd.eq_def aLoad.eq_def aField.eq_def aFld.eq_def aIdx_isl aIdx_osl aSlc_isl aSlc_osl aSlc_str aSlc_nsl bnd.eq_def evs_nil evs_cons aBuild.eq_def aFill splice.eq_def cells_agg cells_int cells_bool cells_str cells_nil cells_nsl cells_isl cells_osl cells_ptr cells_ip cells_fn cells_Wd one_int one_bool one_str one_nil one_nsl one_isl one_osl one_ptr one_ip one_fn one_Wd aSets hupd_eq hupd_ne wrap_i64s wrap_u64s wrap_u32s wrap_u8s wd_getD wd_set wd_len wd_replicate wd_one wd_fold fz_osl hupd_same aSix.eq_def aEqS.eq_def aEqB_bool aEqB_nsl aEqB_nil

open Go.Proofs.Ytmaebeknmiomnaa

section
variable {H : Type} {enc : TypeId × Value → H} {w : World} {base : Nat} {sp : Nat → Bool} {held : Bool}
theorem open_i64 {fuel : Nat} {cs : List Value} {x : DataW H × List MemPlace} (h : DataW.trod enc Try.prog w base sp held fuel 2 cs = some x) : ∃ n, cs = [.int .i64 n] ∧ I64 n := by
  obtain ⟨n, h1, _, h3⟩ := DataW.trod_int Try.underlying2 h
  refine ⟨n, h1, ?_⟩
  unfold I64
  simp [Lit.wf, IntKind.min, IntKind.max, IntKind.signed, IntKind.bits] at h3
  omega
theorem open_sp {fuel : Nat} {cs : List Value} {x : DataW H × List MemPlace} (h : DataW.trod enc Try.prog w base sp held fuel 134 cs = some x) : ∃ p : Sp, p.ok ∧ cs = [.int .i64 p.x, .int .i64 p.y] := by
  obtain ⟨xs, n, _, rfl, hl, hlen, hf⟩ := DataW.trod_struct Try.underlying134 h
  have hl2 : cs.length = 2 := hl.trans (by kernel_rfl)
  have h1 : Try.prog.cellsOf 2 = 1 := by kernel_rfl
  match cs, hl2, xs, hlen with
  | [c0, c1], _, [y0, y1], _ =>
    have f0 : DataW.trod enc Try.prog w base sp held n 2 [c0] = some y0 := by have h := hf 0 _ rfl; simpa [h1] using h
    have f1 : DataW.trod enc Try.prog w base sp held n 2 [c1] = some y1 := by have h := hf 1 _ rfl; simpa [h1] using h
    obtain ⟨n0, e0, k0⟩ := open_i64 f0
    obtain ⟨n1, e1, k1⟩ := open_i64 f1
    simp only [List.cons.injEq, and_true] at e0 e1
    subst e0 e1
    exact ⟨⟨n0, n1⟩, ⟨k0, k1⟩, rfl⟩
theorem open_sg {fuel : Nat} {cs : List Value} {x : DataW H × List MemPlace} (h : DataW.trod enc Try.prog w base sp held fuel 136 cs = some x) : ∃ s : Sg, s.ok ∧ VRL w β0 b0 s.cells cs := by
  obtain ⟨xs, n, _, rfl, hl, hlen, hf⟩ := DataW.trod_struct Try.underlying136 h
  have hl4 : cs.length = 4 := hl.trans (by kernel_rfl)
  have h1 : Try.prog.cellsOf 134 = 2 := by kernel_rfl
  match cs, hl4, xs, hlen with
  | [c0, c1, c2, c3], _, [y0, y1], _ =>
    have f0 : DataW.trod enc Try.prog w base sp held n 134 [c0, c1] = some y0 := by have h := hf 0 _ rfl; simpa [h1] using h
    have f1 : DataW.trod enc Try.prog w base sp held n 134 [c2, c3] = some y1 := by have h := hf 1 _ rfl; simpa [h1] using h
    obtain ⟨p0, k0, e0⟩ := open_sp f0
    obtain ⟨p1, k1, e1⟩ := open_sp f1
    simp only [List.cons.injEq, and_true] at e0 e1
    obtain ⟨rfl, rfl⟩ := e0
    obtain ⟨rfl, rfl⟩ := e1
    refine ⟨⟨p0, p1⟩, ⟨k0, k1⟩, ?_⟩
    exact ⟨_, _, rfl, rfl, _, _, rfl, rfl, _, _, rfl, rfl, _, _, rfl, rfl, rfl⟩
end

section
variable {H : Type} {enc : TypeId × Value → H} {w : World} {base : Nat} {sp : Nat → Bool} {held : Bool}
theorem open_segs {fuel : Nat} {cs : List Value} {x : DataW H × List MemPlace} (h : DataW.trod enc Try.prog w base sp held fuel 38 cs = some x) : ∃ L : List Sg, (∀ s ∈ L, s.ok) ∧ L.length ≤ maxLen ∧ ∃ v, cs = [v] ∧ VR w β0 b0 (.isl (L.map Sg.cells)) v :=
  open_rows (z := 4) Try.underlying38 (by kernel_rfl) (by omega) _ Sg.cells (fun _ _ _ h => open_sg h) h
end

namespace fnExactCrossPairs
open Go.ChangeShapes Go.WideShapes Go.ChangeAt Go.RowKit
theorem walk (L : List Sg) (hL : L.length ≤ maxLen) (w : World) (v0 : Value) (hvv0 : VR w β0 b0 (.isl (L.map Sg.cells)) v0) :
    Calls Try.prog 9 #[v0] w fun e w' => e = .returned (.bool true) ∧ Below w.heap.size w w' := by
  have h := fnExactCrossPairs_fc L hL w β0 b0 0 [v0] (fun id l h => by simp [β0] at h) (fun i j l l' h => by simp [β0] at h) ⟨v0, _, rfl, hvv0, rfl⟩
  refine h.mono ?_
  rintro e w' ⟨u, rfl, hu, hb⟩
  have : u = .bool true := hu b0
  subst this
  exact ⟨rfl, hb⟩
theorem own : ownKnob Try.prog.godebug = none := by kernel_rfl
theorem laidOut : laidOutB Try.prog = true := by kernel_rfl
set_option maxRecDepth 100000 in
theorem lifted (os : Os) (started : os.Started) (H : Type) (enc : TypeId × Value → H) :
    ReturnsInHanded {} Try.checked os 9 .any (Rows.fnExactCrossPairsSpec.pre6 enc Try.prog Try.f9 Rows.fnExactCrossPairsRow.domain false) (Rows.fnExactCrossPairsSpec.post enc Try.prog Try.f9 false true false false) := by
  refine returnsInHanded_of_change_sized (C := Try.checked) own started (by kernel_rfl) Try.func9
    (ChangeSpec.witness6 (enc := enc) (C := Try.checked) false ⟨#[], #[.slice none 0 0], []⟩ 8 (by kernel_rfl) (by kernel_rfl) (by kernel_rfl) (by kernel_rfl)) ?_
  intro W base args ds gs before hval0 hW hcnd hsz0 _
  have hval : ∀ (j : Nat) t v, Try.f9.params[j]? = some t → args[j]? = some v → Value.okWide Try.prog W .any base t v := hval0
  have hW' := hW
  obtain ⟨p, q, hA0, hV, rfl, hfz, hnd⟩ := hW
  have hA : DataW.TrodAll enc Try.prog W 0 (fun _ => true) true Try.f9.params.toList args.toList ds p := hA0
  rw [Try.params9] at hA hval
  obtain ⟨v0, vs0, d0, ds0, p0, q0, hargs0, rfl, rfl, h0, r0⟩ := trodAll_cons hA
  obtain ⟨rfl, rfl, rfl⟩ := trodAll_nil r0
  obtain rfl : args = #[v0] := by cases args; simp_all
  obtain ⟨rfl, rfl⟩ := trodVars_none hV
  obtain ⟨a0, len0, cap0, rfl⟩ := okWide_slice Try.underlying38 (hval 0 38 v0 rfl rfl)
  have k0 := h0
  have lt0 : ∀ x ∈ p0, x.block < W.heap.size := by obtain ⟨m, hm⟩ := k0; exact DataW.trod_lt m _ _ _ hm
  obtain ⟨fuel0, hf0⟩ := h0
  obtain ⟨L, hqL, hL, w0, hv0, hvv0⟩ := open_segs hf0
  have hs0 : w0 = .slice a0 len0 cap0 := by simpa [Value.cells] using hv0.symm
  subst hs0
  clear hA0 hval0 hsz0
  refine (walk L hL W _ hvv0).mono fun e W' ⟨he, bel⟩ => ?_
  subst he
  exact ⟨_, rfl, _, _, _, [], _, [], hW', trodAll_mk1 (shut_bool Try.underlying4 _), (trodAll_cons_mk (Below.trod laidOut (by kernel_rfl) (of_decide_eq_true (by kernel_rfl)) k0 bel lt0) trodAll_mk0), rfl, bel.frame _, fun h => by cases h⟩
theorem grp : (Try.pinned.checked.prog.mayEnter && (Rows.fnExactCrossPairsRow.lifted == Try.pinned.checked.prog.liftsFinal) && (Try.pinned.checked.prog.make == some Rows.fnExactCrossPairsRow.make)) = true := by kernel_rfl
theorem closed : joinedFacts Try.pinned.checked.prog 9 Try.f9 Rows.fnExactCrossPairsSpec Rows.fnExactCrossPairsRow = true := by
  have h := grp
  simp only [Bool.and_eq_true] at h
  obtain ⟨⟨h1, h2⟩, h3⟩ := h
  unfold joinedFacts
  rw [h1, h2, h3]
  clear h1 h2 h3
  refine Eq.trans (b := true) ?_ rfl
  kernel_rfl
theorem over : Rows.fnExactCrossPairsRow.holds Try.pinned (OpenSpec.ofChange Rows.fnExactCrossPairsSpec) :=
  OpenClaim.holds_of_wide 9 Try.f9 rfl rfl rfl rfl rfl rfl rfl ⟨rfl, rfl, rfl, rfl, rfl⟩ rfl rfl rfl rfl rfl (by kernel_rfl) Try.func9 closed
    (of_decide_eq_true (by kernel_rfl)) (by unfold Func.isWrapper; first | (rw [if_pos (by decide +kernel)]; kernel_rfl) | (rw [if_neg (by decide +kernel)]; exact ⟨rfl, rfl⟩))
    (fun os started H enc _ => lifted os started H enc)
end fnExactCrossPairs
/-- The statement. -/
theorem fnExactCrossPairs_holds : Rows.FnExactCrossPairsSaid := fnExactCrossPairs.over



end Go.Proofs.Ytmaebeknmiomnaa
