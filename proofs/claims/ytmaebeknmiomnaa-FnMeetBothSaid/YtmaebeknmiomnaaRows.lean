/-
  No cell of these rows narrows 'for every input' (looked for: loops, veiled, ifaces, maps, wideKeys, modest, calm, conditions, laid).
  DERIVED. THE GIVEN ROWS OF THIS SEAT. 12 by the template 'for every input the law returns true; each argument reads behind the call as it read before'; 0 by the template 'total and deterministic' (their statements: YtmaebeknmiomnaaTotals.lean).
  GIVEN WITH THE SEED: the statements are not yours to turn. If you find one false, say at which input.
  Laid BY PROGRAM, IN A SANDBOX (cutbox-rows.mjs): the forced cells as the released guide's own fill.sh prints them over the translation a38662c37b6dfe65… (all of the seat's roots in one cut). By AI agents, Wed Nov 11 2026. No macro, syntax, notation, axiom, sorry.
-/
import Derived.Test.YtmaebeknmiomnaaChecked
import GoSem.Claim
import GoSem.ClaimJoined
import GoSem.ClaimMapViews
import Derived.JoinedTies
import Derived.KernelRfl
namespace Go.Proofs.Ytmaebeknmiomnaa
/- THE CELL 'sum', in the pinned program and in every row, IS THE sha256 OF THE DUMP (.gsa) THAT YtmaebeknmiomnaaProg.lean LOADS. Nothing in Lean hashes anything: it is a label: what it is worth is what the hold of that sum in a sandbox is worth. -/
noncomputable def Try.pinned : Pinned := { name := "ytmaebeknmiomnaa", sum := "a38662c37b6dfe651efef0f96577fa66fcb42eeb99f336a8a26924b57ffac66d", checked := Try.checked }
namespace Rows
def none {H : Type} : Left H := { results := [], args := [] }

/-- 'laws.FnPointOrder': WHATEVER THE INPUT: true; the input reads as it did. -/
def fnPointOrderSpec : ChangeSpec := { name := "fnPointOrder", fn := fun _ => fun
  | [d] => { results := [.lit (.bool true)], args := [d] }
  | _ => none }
def fnPointOrderRow : OpenClaim := { program := "ytmaebeknmiomnaa", sum := "a38662c37b6dfe651efef0f96577fa66fcb42eeb99f336a8a26924b57ffac66d", func := "loop.example/g00225/laws.FnPointOrder", spec := "fnPointOrder", inPlace := ["math/bits.Add64", "math/bits.Sub64"], named := ["math/bits.divideError", "math/bits.overflowError"], apart := false }
def FnPointOrderSaid : Prop := fnPointOrderRow.holds Try.pinned (OpenSpec.ofChange fnPointOrderSpec)

/-- ITS FALSE NEIGHBOUR: 'it returns false'. Refute it at one input. -/
def fnPointOrderWrong : ChangeSpec := { name := "fnPointOrder", fn := fun _ => fun
  | [d] => { results := [.lit (.bool false)], args := [d] }
  | _ => none }
def FnPointOrderWrongFalsely : Prop := fnPointOrderRow.holds Try.pinned (OpenSpec.ofChange fnPointOrderWrong)

/-- 'laws.FnExactQuiet': WHATEVER THE INPUT: true; the input reads as it did. -/
def fnExactQuietSpec : ChangeSpec := { name := "fnExactQuiet", fn := fun _ => fun
  | [d] => { results := [.lit (.bool true)], args := [d] }
  | _ => none }
def fnExactQuietRow : OpenClaim := { program := "ytmaebeknmiomnaa", sum := "a38662c37b6dfe651efef0f96577fa66fcb42eeb99f336a8a26924b57ffac66d", func := "loop.example/g00225/laws.FnExactQuiet", spec := "fnExactQuiet", inPlace := ["math/bits.Add64", "math/bits.Sub64"], unfollowed := true, recurses := true, named := ["math/bits.divideError", "math/bits.overflowError"], apart := false }
def FnExactQuietSaid : Prop := fnExactQuietRow.holds Try.pinned (OpenSpec.ofChange fnExactQuietSpec)

/-- ITS FALSE NEIGHBOUR: 'it returns false'. Refute it at one input. -/
def fnExactQuietWrong : ChangeSpec := { name := "fnExactQuiet", fn := fun _ => fun
  | [d] => { results := [.lit (.bool false)], args := [d] }
  | _ => none }
def FnExactQuietWrongFalsely : Prop := fnExactQuietRow.holds Try.pinned (OpenSpec.ofChange fnExactQuietWrong)

/-- 'laws.FnMiddles': WHATEVER THE INPUT: true; the input reads as it did. -/
def fnMiddlesSpec : ChangeSpec := { name := "fnMiddles", fn := fun _ => fun
  | [d] => { results := [.lit (.bool true)], args := [d] }
  | _ => none }
def fnMiddlesRow : OpenClaim := { program := "ytmaebeknmiomnaa", sum := "a38662c37b6dfe651efef0f96577fa66fcb42eeb99f336a8a26924b57ffac66d", func := "loop.example/g00225/laws.FnMiddles", spec := "fnMiddles", inPlace := ["math/bits.Add64", "math/bits.Sub64"], named := ["math/bits.divideError", "math/bits.overflowError"], apart := false }
def FnMiddlesSaid : Prop := fnMiddlesRow.holds Try.pinned (OpenSpec.ofChange fnMiddlesSpec)

/-- ITS FALSE NEIGHBOUR: 'it returns false'. Refute it at one input. -/
def fnMiddlesWrong : ChangeSpec := { name := "fnMiddles", fn := fun _ => fun
  | [d] => { results := [.lit (.bool false)], args := [d] }
  | _ => none }
def FnMiddlesWrongFalsely : Prop := fnMiddlesRow.holds Try.pinned (OpenSpec.ofChange fnMiddlesWrong)

/-- 'laws.FnExactRingFault': WHATEVER THE INPUT: true; the input reads as it did. -/
def fnExactRingFaultSpec : ChangeSpec := { name := "fnExactRingFault", fn := fun _ => fun
  | [d] => { results := [.lit (.bool true)], args := [d] }
  | _ => none }
def fnExactRingFaultRow : OpenClaim := { program := "ytmaebeknmiomnaa", sum := "a38662c37b6dfe651efef0f96577fa66fcb42eeb99f336a8a26924b57ffac66d", func := "loop.example/g00225/laws.FnExactRingFault", spec := "fnExactRingFault", inPlace := ["math/bits.Add64", "math/bits.Sub64"], unfollowed := true, recurses := true, named := ["math/bits.divideError", "math/bits.overflowError"], apart := false }
def FnExactRingFaultSaid : Prop := fnExactRingFaultRow.holds Try.pinned (OpenSpec.ofChange fnExactRingFaultSpec)

/-- ITS FALSE NEIGHBOUR: 'it returns false'. Refute it at one input. -/
def fnExactRingFaultWrong : ChangeSpec := { name := "fnExactRingFault", fn := fun _ => fun
  | [d] => { results := [.lit (.bool false)], args := [d] }
  | _ => none }
def FnExactRingFaultWrongFalsely : Prop := fnExactRingFaultRow.holds Try.pinned (OpenSpec.ofChange fnExactRingFaultWrong)

/-- 'laws.FnOver': WHATEVER THE INPUT: true; the input reads as it did. -/
def fnOverSpec : ChangeSpec := { name := "fnOver", fn := fun _ => fun
  | [d] => { results := [.lit (.bool true)], args := [d] }
  | _ => none }
def fnOverRow : OpenClaim := { program := "ytmaebeknmiomnaa", sum := "a38662c37b6dfe651efef0f96577fa66fcb42eeb99f336a8a26924b57ffac66d", func := "loop.example/g00225/laws.FnOver", spec := "fnOver", inPlace := ["math/bits.Add64", "math/bits.Sub64"], named := ["math/bits.divideError", "math/bits.overflowError"], apart := false }
def FnOverSaid : Prop := fnOverRow.holds Try.pinned (OpenSpec.ofChange fnOverSpec)

/-- ITS FALSE NEIGHBOUR: 'it returns false'. Refute it at one input. -/
def fnOverWrong : ChangeSpec := { name := "fnOver", fn := fun _ => fun
  | [d] => { results := [.lit (.bool false)], args := [d] }
  | _ => none }
def FnOverWrongFalsely : Prop := fnOverRow.holds Try.pinned (OpenSpec.ofChange fnOverWrong)

/-- 'laws.FnNearOf': WHATEVER THE INPUT: true; the input reads as it did. -/
def fnNearOfSpec : ChangeSpec := { name := "fnNearOf", fn := fun _ => fun
  | [d] => { results := [.lit (.bool true)], args := [d] }
  | _ => none }
def fnNearOfRow : OpenClaim := { program := "ytmaebeknmiomnaa", sum := "a38662c37b6dfe651efef0f96577fa66fcb42eeb99f336a8a26924b57ffac66d", func := "loop.example/g00225/laws.FnNearOf", spec := "fnNearOf", inPlace := ["math/bits.Add64", "math/bits.Sub64"], named := ["math/bits.divideError", "math/bits.overflowError"], apart := false }
def FnNearOfSaid : Prop := fnNearOfRow.holds Try.pinned (OpenSpec.ofChange fnNearOfSpec)

/-- ITS FALSE NEIGHBOUR: 'it returns false'. Refute it at one input. -/
def fnNearOfWrong : ChangeSpec := { name := "fnNearOf", fn := fun _ => fun
  | [d] => { results := [.lit (.bool false)], args := [d] }
  | _ => none }
def FnNearOfWrongFalsely : Prop := fnNearOfRow.holds Try.pinned (OpenSpec.ofChange fnNearOfWrong)

/-- 'laws.FnExactCrossPairs': WHATEVER THE INPUT: true; the input reads as it did. -/
def fnExactCrossPairsSpec : ChangeSpec := { name := "fnExactCrossPairs", fn := fun _ => fun
  | [d] => { results := [.lit (.bool true)], args := [d] }
  | _ => none }
def fnExactCrossPairsRow : OpenClaim := { program := "ytmaebeknmiomnaa", sum := "a38662c37b6dfe651efef0f96577fa66fcb42eeb99f336a8a26924b57ffac66d", func := "loop.example/g00225/laws.FnExactCrossPairs", spec := "fnExactCrossPairs", inPlace := ["math/bits.Add64", "math/bits.Sub64"], unfollowed := true, recurses := true, named := ["math/bits.divideError", "math/bits.overflowError"], apart := false }
def FnExactCrossPairsSaid : Prop := fnExactCrossPairsRow.holds Try.pinned (OpenSpec.ofChange fnExactCrossPairsSpec)

/-- ITS FALSE NEIGHBOUR: 'it returns false'. Refute it at one input. -/
def fnExactCrossPairsWrong : ChangeSpec := { name := "fnExactCrossPairs", fn := fun _ => fun
  | [d] => { results := [.lit (.bool false)], args := [d] }
  | _ => none }
def FnExactCrossPairsWrongFalsely : Prop := fnExactCrossPairsRow.holds Try.pinned (OpenSpec.ofChange fnExactCrossPairsWrong)

/-- 'laws.FnExactLoopsArea2': WHATEVER THE INPUT: true; the input reads as it did. -/
def fnExactLoopsArea2Spec : ChangeSpec := { name := "fnExactLoopsArea2", fn := fun _ => fun
  | [d] => { results := [.lit (.bool true)], args := [d] }
  | _ => none }
def fnExactLoopsArea2Row : OpenClaim := { program := "ytmaebeknmiomnaa", sum := "a38662c37b6dfe651efef0f96577fa66fcb42eeb99f336a8a26924b57ffac66d", func := "loop.example/g00225/laws.FnExactLoopsArea2", spec := "fnExactLoopsArea2", inPlace := ["math/bits.Add64", "math/bits.Sub64"], named := ["math/bits.divideError", "math/bits.overflowError"], apart := false }
def FnExactLoopsArea2Said : Prop := fnExactLoopsArea2Row.holds Try.pinned (OpenSpec.ofChange fnExactLoopsArea2Spec)

/-- ITS FALSE NEIGHBOUR: 'it returns false'. Refute it at one input. -/
def fnExactLoopsArea2Wrong : ChangeSpec := { name := "fnExactLoopsArea2", fn := fun _ => fun
  | [d] => { results := [.lit (.bool false)], args := [d] }
  | _ => none }
def FnExactLoopsArea2WrongFalsely : Prop := fnExactLoopsArea2Row.holds Try.pinned (OpenSpec.ofChange fnExactLoopsArea2Wrong)

/-- 'laws.FnExactRingsMeet': WHATEVER THE INPUT: true; the input reads as it did. -/
def fnExactRingsMeetSpec : ChangeSpec := { name := "fnExactRingsMeet", fn := fun _ => fun
  | [d1, d2] => { results := [.lit (.bool true)], args := [d1, d2] }
  | _ => none }
def fnExactRingsMeetRow : OpenClaim := { program := "ytmaebeknmiomnaa", sum := "a38662c37b6dfe651efef0f96577fa66fcb42eeb99f336a8a26924b57ffac66d", func := "loop.example/g00225/laws.FnExactRingsMeet", spec := "fnExactRingsMeet", inPlace := ["math/bits.Add64", "math/bits.Sub64"], unfollowed := true, recurses := true, named := ["math/bits.divideError", "math/bits.overflowError"], apart := false }
def FnExactRingsMeetSaid : Prop := fnExactRingsMeetRow.holds Try.pinned (OpenSpec.ofChange fnExactRingsMeetSpec)

/-- ITS FALSE NEIGHBOUR: 'it returns false'. Refute it at one input. -/
def fnExactRingsMeetWrong : ChangeSpec := { name := "fnExactRingsMeet", fn := fun _ => fun
  | [d1, d2] => { results := [.lit (.bool false)], args := [d1, d2] }
  | _ => none }
def FnExactRingsMeetWrongFalsely : Prop := fnExactRingsMeetRow.holds Try.pinned (OpenSpec.ofChange fnExactRingsMeetWrong)

/-- 'laws.FnExactRingArea2': WHATEVER THE INPUT: true; the input reads as it did. -/
def fnExactRingArea2Spec : ChangeSpec := { name := "fnExactRingArea2", fn := fun _ => fun
  | [d] => { results := [.lit (.bool true)], args := [d] }
  | _ => none }
def fnExactRingArea2Row : OpenClaim := { program := "ytmaebeknmiomnaa", sum := "a38662c37b6dfe651efef0f96577fa66fcb42eeb99f336a8a26924b57ffac66d", func := "loop.example/g00225/laws.FnExactRingArea2", spec := "fnExactRingArea2", inPlace := ["math/bits.Add64", "math/bits.Sub64"], unfollowed := true, recurses := true, named := ["math/bits.divideError", "math/bits.overflowError"], apart := false }
def FnExactRingArea2Said : Prop := fnExactRingArea2Row.holds Try.pinned (OpenSpec.ofChange fnExactRingArea2Spec)

/-- ITS FALSE NEIGHBOUR: 'it returns false'. Refute it at one input. -/
def fnExactRingArea2Wrong : ChangeSpec := { name := "fnExactRingArea2", fn := fun _ => fun
  | [d] => { results := [.lit (.bool false)], args := [d] }
  | _ => none }
def FnExactRingArea2WrongFalsely : Prop := fnExactRingArea2Row.holds Try.pinned (OpenSpec.ofChange fnExactRingArea2Wrong)

/-- 'laws.FnMeetBoth': WHATEVER THE INPUT: true; the input reads as it did. -/
def fnMeetBothSpec : ChangeSpec := { name := "fnMeetBoth", fn := fun _ => fun
  | [d] => { results := [.lit (.bool true)], args := [d] }
  | _ => none }
def fnMeetBothRow : OpenClaim := { program := "ytmaebeknmiomnaa", sum := "a38662c37b6dfe651efef0f96577fa66fcb42eeb99f336a8a26924b57ffac66d", func := "loop.example/g00225/laws.FnMeetBoth", spec := "fnMeetBoth", inPlace := ["math/bits.Add64", "math/bits.Sub64"], unfollowed := true, recurses := true, named := ["math/bits.divideError", "math/bits.overflowError"], apart := false }
def FnMeetBothSaid : Prop := fnMeetBothRow.holds Try.pinned (OpenSpec.ofChange fnMeetBothSpec)

/-- ITS FALSE NEIGHBOUR: 'it returns false'. Refute it at one input. -/
def fnMeetBothWrong : ChangeSpec := { name := "fnMeetBoth", fn := fun _ => fun
  | [d] => { results := [.lit (.bool false)], args := [d] }
  | _ => none }
def FnMeetBothWrongFalsely : Prop := fnMeetBothRow.holds Try.pinned (OpenSpec.ofChange fnMeetBothWrong)

/-- 'laws.FnExactRingTurned': WHATEVER THE INPUT: true; the input reads as it did. -/
def fnExactRingTurnedSpec : ChangeSpec := { name := "fnExactRingTurned", fn := fun _ => fun
  | [d] => { results := [.lit (.bool true)], args := [d] }
  | _ => none }
def fnExactRingTurnedRow : OpenClaim := { program := "ytmaebeknmiomnaa", sum := "a38662c37b6dfe651efef0f96577fa66fcb42eeb99f336a8a26924b57ffac66d", func := "loop.example/g00225/laws.FnExactRingTurned", spec := "fnExactRingTurned", inPlace := ["math/bits.Add64", "math/bits.Sub64"], unfollowed := true, recurses := true, named := ["math/bits.divideError", "math/bits.overflowError"], apart := false }
def FnExactRingTurnedSaid : Prop := fnExactRingTurnedRow.holds Try.pinned (OpenSpec.ofChange fnExactRingTurnedSpec)

/-- ITS FALSE NEIGHBOUR: 'it returns false'. Refute it at one input. -/
def fnExactRingTurnedWrong : ChangeSpec := { name := "fnExactRingTurned", fn := fun _ => fun
  | [d] => { results := [.lit (.bool false)], args := [d] }
  | _ => none }
def FnExactRingTurnedWrongFalsely : Prop := fnExactRingTurnedRow.holds Try.pinned (OpenSpec.ofChange fnExactRingTurnedWrong)

/- THE SECOND FORM. 'bulk': how many values and letters a reading holds, each counted each time it is reached (what is shared counts as often as it is met; a slice's spare places count too). A statement '..UptoSaid' is the law's where the arguments, and the package variables that the reading takes, are together of bulk at most 1048576: NARROWER than '..Said'. Prove '..Said' where nothing that the law and all that it calls make is longer than what came in: it says more and counts as full. Else prove '..UptoSaid'. A law counts once. -/
mutual
def uptoBulk {H : Type} : DataW H → Nat
  | .lit (.string bytes) => bytes.length + 1
  | .lit _ => 1
  | .nil => 1
  | .ptr d => uptoBulk d + 1
  | .slice elems spare => uptoBulkAll elems + uptoBulkAll spare + 1
  | .agg parts => uptoBulkAll parts + 1
  | .iface _ d => uptoBulk d + 1
  | .map entries => uptoBulkEntries entries + 1
  | .held _ => 1
def uptoBulkAll {H : Type} : List (DataW H) → Nat
  | [] => 0
  | d :: r => uptoBulk d + uptoBulkAll r
def uptoBulkEntries {H : Type} : List (Lit × DataW H) → Nat
  | [] => 0
  | x :: r => uptoBulkEntry x + uptoBulkEntries r
def uptoBulkEntry {H : Type} : Lit × DataW H → Nat
  | (.string bytes, d) => bytes.length + uptoBulk d + 1
  | (_, d) => uptoBulk d + 1
 end
def uptoSmall : (H : Type) → List (DataW H) → Bool := fun _ ds => decide (uptoBulkAll ds ≤ 1048576)
def OpenSpec.upto (s : _root_.Go.ChangeSpec) : _root_.Go.OpenSpec := { _root_.Go.OpenSpec.ofChange s with cond := some uptoSmall }

/-- 'laws.FnPointOrder', WHERE WHAT IT READS IS OF BULK AT MOST 1048576: true; the input reads as it did. -/
def fnPointOrderUptoRow : OpenClaim := { program := "ytmaebeknmiomnaa", sum := "a38662c37b6dfe651efef0f96577fa66fcb42eeb99f336a8a26924b57ffac66d", func := "loop.example/g00225/laws.FnPointOrder", spec := "fnPointOrder", inPlace := ["math/bits.Add64", "math/bits.Sub64"], named := ["math/bits.divideError", "math/bits.overflowError"], apart := false, narrowed := true }
def FnPointOrderUptoSaid : Prop := fnPointOrderUptoRow.holds Try.pinned (OpenSpec.upto fnPointOrderSpec)

/-- 'laws.FnExactQuiet', WHERE WHAT IT READS IS OF BULK AT MOST 1048576: true; the input reads as it did. -/
def fnExactQuietUptoRow : OpenClaim := { program := "ytmaebeknmiomnaa", sum := "a38662c37b6dfe651efef0f96577fa66fcb42eeb99f336a8a26924b57ffac66d", func := "loop.example/g00225/laws.FnExactQuiet", spec := "fnExactQuiet", inPlace := ["math/bits.Add64", "math/bits.Sub64"], unfollowed := true, recurses := true, named := ["math/bits.divideError", "math/bits.overflowError"], apart := false, narrowed := true }
def FnExactQuietUptoSaid : Prop := fnExactQuietUptoRow.holds Try.pinned (OpenSpec.upto fnExactQuietSpec)

/-- 'laws.FnMiddles', WHERE WHAT IT READS IS OF BULK AT MOST 1048576: true; the input reads as it did. -/
def fnMiddlesUptoRow : OpenClaim := { program := "ytmaebeknmiomnaa", sum := "a38662c37b6dfe651efef0f96577fa66fcb42eeb99f336a8a26924b57ffac66d", func := "loop.example/g00225/laws.FnMiddles", spec := "fnMiddles", inPlace := ["math/bits.Add64", "math/bits.Sub64"], named := ["math/bits.divideError", "math/bits.overflowError"], apart := false, narrowed := true }
def FnMiddlesUptoSaid : Prop := fnMiddlesUptoRow.holds Try.pinned (OpenSpec.upto fnMiddlesSpec)

/-- 'laws.FnExactRingFault', WHERE WHAT IT READS IS OF BULK AT MOST 1048576: true; the input reads as it did. -/
def fnExactRingFaultUptoRow : OpenClaim := { program := "ytmaebeknmiomnaa", sum := "a38662c37b6dfe651efef0f96577fa66fcb42eeb99f336a8a26924b57ffac66d", func := "loop.example/g00225/laws.FnExactRingFault", spec := "fnExactRingFault", inPlace := ["math/bits.Add64", "math/bits.Sub64"], unfollowed := true, recurses := true, named := ["math/bits.divideError", "math/bits.overflowError"], apart := false, narrowed := true }
def FnExactRingFaultUptoSaid : Prop := fnExactRingFaultUptoRow.holds Try.pinned (OpenSpec.upto fnExactRingFaultSpec)

/-- 'laws.FnOver', WHERE WHAT IT READS IS OF BULK AT MOST 1048576: true; the input reads as it did. -/
def fnOverUptoRow : OpenClaim := { program := "ytmaebeknmiomnaa", sum := "a38662c37b6dfe651efef0f96577fa66fcb42eeb99f336a8a26924b57ffac66d", func := "loop.example/g00225/laws.FnOver", spec := "fnOver", inPlace := ["math/bits.Add64", "math/bits.Sub64"], named := ["math/bits.divideError", "math/bits.overflowError"], apart := false, narrowed := true }
def FnOverUptoSaid : Prop := fnOverUptoRow.holds Try.pinned (OpenSpec.upto fnOverSpec)

/-- 'laws.FnNearOf', WHERE WHAT IT READS IS OF BULK AT MOST 1048576: true; the input reads as it did. -/
def fnNearOfUptoRow : OpenClaim := { program := "ytmaebeknmiomnaa", sum := "a38662c37b6dfe651efef0f96577fa66fcb42eeb99f336a8a26924b57ffac66d", func := "loop.example/g00225/laws.FnNearOf", spec := "fnNearOf", inPlace := ["math/bits.Add64", "math/bits.Sub64"], named := ["math/bits.divideError", "math/bits.overflowError"], apart := false, narrowed := true }
def FnNearOfUptoSaid : Prop := fnNearOfUptoRow.holds Try.pinned (OpenSpec.upto fnNearOfSpec)

/-- 'laws.FnExactCrossPairs', WHERE WHAT IT READS IS OF BULK AT MOST 1048576: true; the input reads as it did. -/
def fnExactCrossPairsUptoRow : OpenClaim := { program := "ytmaebeknmiomnaa", sum := "a38662c37b6dfe651efef0f96577fa66fcb42eeb99f336a8a26924b57ffac66d", func := "loop.example/g00225/laws.FnExactCrossPairs", spec := "fnExactCrossPairs", inPlace := ["math/bits.Add64", "math/bits.Sub64"], unfollowed := true, recurses := true, named := ["math/bits.divideError", "math/bits.overflowError"], apart := false, narrowed := true }
def FnExactCrossPairsUptoSaid : Prop := fnExactCrossPairsUptoRow.holds Try.pinned (OpenSpec.upto fnExactCrossPairsSpec)

/-- 'laws.FnExactLoopsArea2', WHERE WHAT IT READS IS OF BULK AT MOST 1048576: true; the input reads as it did. -/
def fnExactLoopsArea2UptoRow : OpenClaim := { program := "ytmaebeknmiomnaa", sum := "a38662c37b6dfe651efef0f96577fa66fcb42eeb99f336a8a26924b57ffac66d", func := "loop.example/g00225/laws.FnExactLoopsArea2", spec := "fnExactLoopsArea2", inPlace := ["math/bits.Add64", "math/bits.Sub64"], named := ["math/bits.divideError", "math/bits.overflowError"], apart := false, narrowed := true }
def FnExactLoopsArea2UptoSaid : Prop := fnExactLoopsArea2UptoRow.holds Try.pinned (OpenSpec.upto fnExactLoopsArea2Spec)

/-- 'laws.FnExactRingsMeet', WHERE WHAT IT READS IS OF BULK AT MOST 1048576: true; the input reads as it did. -/
def fnExactRingsMeetUptoRow : OpenClaim := { program := "ytmaebeknmiomnaa", sum := "a38662c37b6dfe651efef0f96577fa66fcb42eeb99f336a8a26924b57ffac66d", func := "loop.example/g00225/laws.FnExactRingsMeet", spec := "fnExactRingsMeet", inPlace := ["math/bits.Add64", "math/bits.Sub64"], unfollowed := true, recurses := true, named := ["math/bits.divideError", "math/bits.overflowError"], apart := false, narrowed := true }
def FnExactRingsMeetUptoSaid : Prop := fnExactRingsMeetUptoRow.holds Try.pinned (OpenSpec.upto fnExactRingsMeetSpec)

/-- 'laws.FnExactRingArea2', WHERE WHAT IT READS IS OF BULK AT MOST 1048576: true; the input reads as it did. -/
def fnExactRingArea2UptoRow : OpenClaim := { program := "ytmaebeknmiomnaa", sum := "a38662c37b6dfe651efef0f96577fa66fcb42eeb99f336a8a26924b57ffac66d", func := "loop.example/g00225/laws.FnExactRingArea2", spec := "fnExactRingArea2", inPlace := ["math/bits.Add64", "math/bits.Sub64"], unfollowed := true, recurses := true, named := ["math/bits.divideError", "math/bits.overflowError"], apart := false, narrowed := true }
def FnExactRingArea2UptoSaid : Prop := fnExactRingArea2UptoRow.holds Try.pinned (OpenSpec.upto fnExactRingArea2Spec)

/-- 'laws.FnMeetBoth', WHERE WHAT IT READS IS OF BULK AT MOST 1048576: true; the input reads as it did. -/
def fnMeetBothUptoRow : OpenClaim := { program := "ytmaebeknmiomnaa", sum := "a38662c37b6dfe651efef0f96577fa66fcb42eeb99f336a8a26924b57ffac66d", func := "loop.example/g00225/laws.FnMeetBoth", spec := "fnMeetBoth", inPlace := ["math/bits.Add64", "math/bits.Sub64"], unfollowed := true, recurses := true, named := ["math/bits.divideError", "math/bits.overflowError"], apart := false, narrowed := true }
def FnMeetBothUptoSaid : Prop := fnMeetBothUptoRow.holds Try.pinned (OpenSpec.upto fnMeetBothSpec)

/-- 'laws.FnExactRingTurned', WHERE WHAT IT READS IS OF BULK AT MOST 1048576: true; the input reads as it did. -/
def fnExactRingTurnedUptoRow : OpenClaim := { program := "ytmaebeknmiomnaa", sum := "a38662c37b6dfe651efef0f96577fa66fcb42eeb99f336a8a26924b57ffac66d", func := "loop.example/g00225/laws.FnExactRingTurned", spec := "fnExactRingTurned", inPlace := ["math/bits.Add64", "math/bits.Sub64"], unfollowed := true, recurses := true, named := ["math/bits.divideError", "math/bits.overflowError"], apart := false, narrowed := true }
def FnExactRingTurnedUptoSaid : Prop := fnExactRingTurnedUptoRow.holds Try.pinned (OpenSpec.upto fnExactRingTurnedSpec)

end Rows
end Go.Proofs.Ytmaebeknmiomnaa
