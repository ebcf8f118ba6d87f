/- Walks: FnPointTexts: the statement. -/
import Derived.Test.YtgeecahbahgjbaaG11
import Derived.Test.YtgeecahbahgjbaaRows
import Derived.WalkKit
import Derived.ProofKit
import Derived.OpenShut
import Derived.ShutString
import Derived.ChangeOld
import Derived.Below
import Derived.SizedLaws
import Derived.Carry

namespace Go.Proofs.Ytgeecahbahgjbaa
open Go Go.RowKit
set_option linter.unusedSimpArgs false
set_option linter.unusedVariables false
set_option maxRecDepth 100000


open Go.Proofs.Ytgeecahbahgjbaa

section
variable {H : Type} {enc : TypeId × Value → H} {w : World} {base : Nat} {sp : Nat → Bool} {held : Bool}
theorem open_u8 {fuel : Nat} {cs : List Value} {x : DataW H × List MemPlace} (h : DataW.trod enc Try.prog w base sp held fuel 5 cs = some x) : ∃ n : Int, (0 ≤ n ∧ n < 256) ∧ VRL w β0 b0 [.int .u8 n] cs := by
  obtain ⟨n, h1, _, h3⟩ := DataW.trod_int Try.underlying5 h
  simp [Lit.wf, IntKind.min, IntKind.max, IntKind.signed, IntKind.bits] at h3
  exact ⟨n, by omega, _, _, h1, rfl, rfl⟩
theorem open_bytes {fuel : Nat} {cs : List Value} {x : DataW H × List MemPlace} (h : DataW.trod enc Try.prog w base sp held fuel 22 cs = some x) : ∃ l : List Int, Dig 256 l ∧ l.length ≤ maxLen ∧ ∃ v, cs = [v] ∧ VR w β0 b0 (Wd .u8 l) v :=
  open_rows (z := 1) Try.underlying22 (by kernel_rfl) (by omega) _ (fun n => [.int .u8 n]) (fun _ _ _ h => open_u8 h) h
end

namespace fnPointTexts
open Go.ChangeShapes Go.WideShapes Go.ChangeAt Go.RowKit
theorem walk (l : List Int) (dl : Dig 256 l) (w : World) (v : Value) (hv : VR w β0 b0 (Wd .u8 l) v) :
    Calls Try.prog 3 #[v] w fun e w' => e = .returned (.bool true) ∧ Below w.heap.size w w' := by
  have h := fnPointTexts_fc l dl w β0 b0 0 [v] (fun id l h => by simp [β0] at h) (fun i j l l' h => by simp [β0] at h) ⟨v, [], rfl, hv, rfl⟩
  refine h.mono ?_
  rintro e w' ⟨u, rfl, hu, hb⟩
  have : u = .bool true := hu b0
  subst this
  exact ⟨rfl, hb⟩
theorem own : ownKnob Try.prog.godebug = none := by kernel_rfl
theorem laidOut : laidOutB Try.prog = true := by kernel_rfl
set_option maxRecDepth 100000 in
theorem lifted (os : Os) (started : os.Started) (H : Type) (enc : TypeId × Value → H) :
    ReturnsInHanded {} Try.checked os 3 .any (Rows.fnPointTextsSpec.pre6 enc Try.prog Try.f3 Rows.fnPointTextsRow.domain false) (Rows.fnPointTextsSpec.post enc Try.prog Try.f3 false true false false) := by
  refine returnsInHanded_of_change_sized (C := Try.checked) own started (by kernel_rfl) Try.func3
    (ChangeSpec.witness6 (enc := enc) (C := Try.checked) false ⟨#[], #[.slice none 0 0], []⟩ 8 (by kernel_rfl) (by kernel_rfl) (by kernel_rfl) (by kernel_rfl)) ?_
  intro W base args ds gs before hval0 hW hcnd hsz0 _
  have hval : ∀ (j : Nat) t v, Try.f3.params[j]? = some t → args[j]? = some v → Value.okWide Try.prog W .any base t v := hval0
  have hW' := hW
  obtain ⟨p, q, hA0, hV, rfl, hfz, hnd⟩ := hW
  have hA : DataW.TrodAll enc Try.prog W 0 (fun _ => true) true Try.f3.params.toList args.toList ds p := hA0
  rw [Try.params3] at hA hval
  obtain ⟨v0, vs0, d0, ds0, p0, q0, hargs, rfl, rfl, h0, r0⟩ := trodAll_cons hA
  obtain ⟨rfl, rfl, rfl⟩ := trodAll_nil r0
  obtain rfl : args = #[v0] := by cases args; simp_all
  obtain ⟨rfl, rfl⟩ := trodVars_none hV
  obtain ⟨a0, len0, cap0, rfl⟩ := okWide_slice Try.underlying22 (hval 0 22 v0 rfl rfl)
  have k0 := h0
  have lt0 : ∀ x ∈ p0, x.block < W.heap.size := by obtain ⟨m, hm⟩ := k0; exact DataW.trod_lt m _ _ _ hm
  obtain ⟨fuel, hf⟩ := h0
  obtain ⟨l, dl, hl, v, hv, hvv⟩ := open_bytes hf
  have hs : v = .slice a0 len0 cap0 := by simpa [Value.cells] using hv.symm
  subst hs
  clear hA0 hval0 hsz0
  refine (walk l dl W _ hvv).mono fun e W' ⟨he, bel⟩ => ?_
  subst he
  exact ⟨_, rfl, _, _, _, [], _, [], hW', trodAll_mk1 (shut_bool Try.underlying4 _), (trodAll_cons_mk (Below.trod laidOut (by kernel_rfl) (of_decide_eq_true (by kernel_rfl)) k0 bel lt0) trodAll_mk0), rfl, bel.frame _, fun h => by cases h⟩
theorem over : Rows.fnPointTextsRow.holds Try.pinned (OpenSpec.ofChange Rows.fnPointTextsSpec) :=
  OpenClaim.holds_of_wide 3 Try.f3 rfl rfl rfl rfl rfl rfl rfl ⟨rfl, rfl, rfl, rfl, rfl⟩ rfl rfl rfl rfl rfl (by kernel_rfl) Try.func3 (by kernel_rfl)
    (of_decide_eq_true (by kernel_rfl)) (by unfold Func.isWrapper; first | (rw [if_pos (by decide +kernel)]; kernel_rfl) | (rw [if_neg (by decide +kernel)]; exact ⟨rfl, rfl⟩))
    (fun os started H enc _ => lifted os started H enc)
end fnPointTexts
/-- The statement. -/
theorem fnPointTexts_holds : Rows.FnPointTextsSaid := fnPointTexts.over



end Go.Proofs.Ytgeecahbahgjbaa
