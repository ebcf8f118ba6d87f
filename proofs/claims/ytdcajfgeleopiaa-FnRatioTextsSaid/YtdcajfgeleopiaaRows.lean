/-
  No cell of these rows narrows 'for every input' (looked for: loops, veiled, ifaces, maps, wideKeys, modest, calm, conditions, laid).
  DERIVED. THE GIVEN ROWS OF THIS SEAT. 7 by the template 'for every input the law returns true; each argument reads behind the call as it read before'; 0 by the template 'total and deterministic' (their statements: YtdcajfgeleopiaaTotals.lean).
  GIVEN WITH THE SEED: the statements are not yours to turn. If you find one false, say at which input.
  Laid BY PROGRAM, IN A SANDBOX (cutbox-rows.mjs): the forced cells as the released guide's own fill.sh prints them over the translation d14fd76c73c2e81c… (all of the seat's roots in one cut). By AI agents, Wed Nov 11 2026. No macro, syntax, notation, axiom, sorry.
-/
import Derived.Test.YtdcajfgeleopiaaChecked
import GoSem.Claim
import GoSem.ClaimJoined
import GoSem.ClaimMapViews
import Derived.JoinedTies
import Derived.KernelRfl
namespace Go.Proofs.Ytdcajfgeleopiaa
/- THE CELL 'sum', in the pinned program and in every row, IS THE sha256 OF THE DUMP (.gsa) THAT YtdcajfgeleopiaaProg.lean LOADS. Nothing in Lean hashes anything: it is a label: what it is worth is what the hold of that sum in a sandbox is worth. -/
noncomputable def Try.pinned : Pinned := { name := "ytdcajfgeleopiaa", sum := "d14fd76c73c2e81ca14e7de8d4345b44f476cd6ffe02927dfccdc9cf4811e3a0", checked := Try.checked }
namespace Rows
def none {H : Type} : Left H := { results := [], args := [] }

/-- 'laws.FnRatioTexts': WHATEVER THE INPUT: true; the input reads as it did. -/
def fnRatioTextsSpec : ChangeSpec := { name := "fnRatioTexts", fn := fun _ => fun
  | [d] => { results := [.lit (.bool true)], args := [d] }
  | _ => none }
def fnRatioTextsRow : OpenClaim := { program := "ytdcajfgeleopiaa", sum := "d14fd76c73c2e81ca14e7de8d4345b44f476cd6ffe02927dfccdc9cf4811e3a0", func := "loop.example/g00225/laws.FnRatioTexts", spec := "fnRatioTexts", inPlace := ["math/bits.Add64", "math/bits.Sub64", "internal/bytealg.IndexByteString", "internal/bytealg.IndexString"], named := ["math/bits.divideError", "math/bits.overflowError", "internal/bytealg.MaxLen"], apart := false }
def FnRatioTextsSaid : Prop := fnRatioTextsRow.holds Try.pinned (OpenSpec.ofChange fnRatioTextsSpec)

/-- ITS FALSE NEIGHBOUR: 'it returns false'. Refute it at one input. -/
def fnRatioTextsWrong : ChangeSpec := { name := "fnRatioTexts", fn := fun _ => fun
  | [d] => { results := [.lit (.bool false)], args := [d] }
  | _ => none }
def FnRatioTextsWrongFalsely : Prop := fnRatioTextsRow.holds Try.pinned (OpenSpec.ofChange fnRatioTextsWrong)

/-- 'laws.FnExactRingSegs': WHATEVER THE INPUT: true; the input reads as it did. -/
def fnExactRingSegsSpec : ChangeSpec := { name := "fnExactRingSegs", fn := fun _ => fun
  | [d] => { results := [.lit (.bool true)], args := [d] }
  | _ => none }
def fnExactRingSegsRow : OpenClaim := { program := "ytdcajfgeleopiaa", sum := "d14fd76c73c2e81ca14e7de8d4345b44f476cd6ffe02927dfccdc9cf4811e3a0", func := "loop.example/g00225/laws.FnExactRingSegs", spec := "fnExactRingSegs", inPlace := ["math/bits.Add64", "math/bits.Sub64"], unfollowed := true, recurses := true, named := ["math/bits.divideError", "math/bits.overflowError"], apart := false }
def FnExactRingSegsSaid : Prop := fnExactRingSegsRow.holds Try.pinned (OpenSpec.ofChange fnExactRingSegsSpec)

/-- ITS FALSE NEIGHBOUR: 'it returns false'. Refute it at one input. -/
def fnExactRingSegsWrong : ChangeSpec := { name := "fnExactRingSegs", fn := fun _ => fun
  | [d] => { results := [.lit (.bool false)], args := [d] }
  | _ => none }
def FnExactRingSegsWrongFalsely : Prop := fnExactRingSegsRow.holds Try.pinned (OpenSpec.ofChange fnExactRingSegsWrong)

/-- 'laws.FnPointTexts': WHATEVER THE INPUT: true; the input reads as it did. -/
def fnPointTextsSpec : ChangeSpec := { name := "fnPointTexts", fn := fun _ => fun
  | [d] => { results := [.lit (.bool true)], args := [d] }
  | _ => none }
def fnPointTextsRow : OpenClaim := { program := "ytdcajfgeleopiaa", sum := "d14fd76c73c2e81ca14e7de8d4345b44f476cd6ffe02927dfccdc9cf4811e3a0", func := "loop.example/g00225/laws.FnPointTexts", spec := "fnPointTexts", inPlace := ["math/bits.Add64", "math/bits.Sub64", "internal/bytealg.IndexByteString", "internal/bytealg.IndexString"], named := ["math/bits.divideError", "math/bits.overflowError", "internal/bytealg.MaxLen"], apart := false }
def FnPointTextsSaid : Prop := fnPointTextsRow.holds Try.pinned (OpenSpec.ofChange fnPointTextsSpec)

/-- ITS FALSE NEIGHBOUR: 'it returns false'. Refute it at one input. -/
def fnPointTextsWrong : ChangeSpec := { name := "fnPointTexts", fn := fun _ => fun
  | [d] => { results := [.lit (.bool false)], args := [d] }
  | _ => none }
def FnPointTextsWrongFalsely : Prop := fnPointTextsRow.holds Try.pinned (OpenSpec.ofChange fnPointTextsWrong)

/-- 'laws.FnExactLayerFault': WHATEVER THE INPUT: true; the input reads as it did. -/
def fnExactLayerFaultSpec : ChangeSpec := { name := "fnExactLayerFault", fn := fun _ => fun
  | [d] => { results := [.lit (.bool true)], args := [d] }
  | _ => none }
def fnExactLayerFaultRow : OpenClaim := { program := "ytdcajfgeleopiaa", sum := "d14fd76c73c2e81ca14e7de8d4345b44f476cd6ffe02927dfccdc9cf4811e3a0", func := "loop.example/g00225/laws.FnExactLayerFault", spec := "fnExactLayerFault", inPlace := ["math/bits.Add64", "math/bits.Sub64"], unfollowed := true, recurses := true, named := ["math/bits.divideError", "math/bits.overflowError"], apart := false }
def FnExactLayerFaultSaid : Prop := fnExactLayerFaultRow.holds Try.pinned (OpenSpec.ofChange fnExactLayerFaultSpec)

/-- ITS FALSE NEIGHBOUR: 'it returns false'. Refute it at one input. -/
def fnExactLayerFaultWrong : ChangeSpec := { name := "fnExactLayerFault", fn := fun _ => fun
  | [d] => { results := [.lit (.bool false)], args := [d] }
  | _ => none }
def FnExactLayerFaultWrongFalsely : Prop := fnExactLayerFaultRow.holds Try.pinned (OpenSpec.ofChange fnExactLayerFaultWrong)

/-- 'laws.FnRingMoved': WHATEVER THE INPUT: true; the input reads as it did. -/
def fnRingMovedSpec : ChangeSpec := { name := "fnRingMoved", fn := fun _ => fun
  | [d] => { results := [.lit (.bool true)], args := [d] }
  | _ => none }
def fnRingMovedRow : OpenClaim := { program := "ytdcajfgeleopiaa", sum := "d14fd76c73c2e81ca14e7de8d4345b44f476cd6ffe02927dfccdc9cf4811e3a0", func := "loop.example/g00225/laws.FnRingMoved", spec := "fnRingMoved", inPlace := ["math/bits.Add64", "math/bits.Sub64"], unfollowed := true, recurses := true, named := ["math/bits.divideError", "math/bits.overflowError"], apart := false }
def FnRingMovedSaid : Prop := fnRingMovedRow.holds Try.pinned (OpenSpec.ofChange fnRingMovedSpec)

/-- ITS FALSE NEIGHBOUR: 'it returns false'. Refute it at one input. -/
def fnRingMovedWrong : ChangeSpec := { name := "fnRingMoved", fn := fun _ => fun
  | [d] => { results := [.lit (.bool false)], args := [d] }
  | _ => none }
def FnRingMovedWrongFalsely : Prop := fnRingMovedRow.holds Try.pinned (OpenSpec.ofChange fnRingMovedWrong)

/-- 'laws.FnExactRingIn': WHATEVER THE INPUT: true; the input reads as it did. -/
def fnExactRingInSpec : ChangeSpec := { name := "fnExactRingIn", fn := fun _ => fun
  | [d1, d2] => { results := [.lit (.bool true)], args := [d1, d2] }
  | _ => none }
def fnExactRingInRow : OpenClaim := { program := "ytdcajfgeleopiaa", sum := "d14fd76c73c2e81ca14e7de8d4345b44f476cd6ffe02927dfccdc9cf4811e3a0", func := "loop.example/g00225/laws.FnExactRingIn", spec := "fnExactRingIn", inPlace := ["math/bits.Add64", "math/bits.Sub64"], unfollowed := true, recurses := true, named := ["math/bits.divideError", "math/bits.overflowError"], apart := false }
def FnExactRingInSaid : Prop := fnExactRingInRow.holds Try.pinned (OpenSpec.ofChange fnExactRingInSpec)

/-- ITS FALSE NEIGHBOUR: 'it returns false'. Refute it at one input. -/
def fnExactRingInWrong : ChangeSpec := { name := "fnExactRingIn", fn := fun _ => fun
  | [d1, d2] => { results := [.lit (.bool false)], args := [d1, d2] }
  | _ => none }
def FnExactRingInWrongFalsely : Prop := fnExactRingInRow.holds Try.pinned (OpenSpec.ofChange fnExactRingInWrong)

/-- 'laws.FnExactRingForm': WHATEVER THE INPUT: true; the input reads as it did. -/
def fnExactRingFormSpec : ChangeSpec := { name := "fnExactRingForm", fn := fun _ => fun
  | [d] => { results := [.lit (.bool true)], args := [d] }
  | _ => none }
def fnExactRingFormRow : OpenClaim := { program := "ytdcajfgeleopiaa", sum := "d14fd76c73c2e81ca14e7de8d4345b44f476cd6ffe02927dfccdc9cf4811e3a0", func := "loop.example/g00225/laws.FnExactRingForm", spec := "fnExactRingForm", inPlace := ["math/bits.Add64", "math/bits.Sub64"], unfollowed := true, recurses := true, named := ["math/bits.divideError", "math/bits.overflowError"], apart := false }
def FnExactRingFormSaid : Prop := fnExactRingFormRow.holds Try.pinned (OpenSpec.ofChange fnExactRingFormSpec)

/-- ITS FALSE NEIGHBOUR: 'it returns false'. Refute it at one input. -/
def fnExactRingFormWrong : ChangeSpec := { name := "fnExactRingForm", fn := fun _ => fun
  | [d] => { results := [.lit (.bool false)], args := [d] }
  | _ => none }
def FnExactRingFormWrongFalsely : Prop := fnExactRingFormRow.holds Try.pinned (OpenSpec.ofChange fnExactRingFormWrong)

/- THE SECOND FORM. 'bulk': how many values and letters a reading holds, each counted each time it is reached (what is shared counts as often as it is met; a slice's spare places count too). A statement '..UptoSaid' is the law's where the arguments, and the package variables that the reading takes, are together of bulk at most 1048576: NARROWER than '..Said'. Prove '..Said' where nothing that the law and all that it calls make is longer than what came in: it says more and counts as full. Else prove '..UptoSaid'. A law counts once. -/
mutual
def uptoBulk {H : Type} : DataW H → Nat
  | .lit (.string bytes) => bytes.length + 1
  | .lit _ => 1
  | .nil => 1
  | .ptr d => uptoBulk d + 1
  | .slice elems spare => uptoBulkAll elems + uptoBulkAll spare + 1
  | .agg parts => uptoBulkAll parts + 1
  | .iface _ d => uptoBulk d + 1
  | .map entries => uptoBulkEntries entries + 1
  | .held _ => 1
def uptoBulkAll {H : Type} : List (DataW H) → Nat
  | [] => 0
  | d :: r => uptoBulk d + uptoBulkAll r
def uptoBulkEntries {H : Type} : List (Lit × DataW H) → Nat
  | [] => 0
  | x :: r => uptoBulkEntry x + uptoBulkEntries r
def uptoBulkEntry {H : Type} : Lit × DataW H → Nat
  | (.string bytes, d) => bytes.length + uptoBulk d + 1
  | (_, d) => uptoBulk d + 1
 end
def uptoSmall : (H : Type) → List (DataW H) → Bool := fun _ ds => decide (uptoBulkAll ds ≤ 1048576)
def OpenSpec.upto (s : _root_.Go.ChangeSpec) : _root_.Go.OpenSpec := { _root_.Go.OpenSpec.ofChange s with cond := some uptoSmall }

/-- 'laws.FnRatioTexts', WHERE WHAT IT READS IS OF BULK AT MOST 1048576: true; the input reads as it did. -/
def fnRatioTextsUptoRow : OpenClaim := { program := "ytdcajfgeleopiaa", sum := "d14fd76c73c2e81ca14e7de8d4345b44f476cd6ffe02927dfccdc9cf4811e3a0", func := "loop.example/g00225/laws.FnRatioTexts", spec := "fnRatioTexts", inPlace := ["math/bits.Add64", "math/bits.Sub64", "internal/bytealg.IndexByteString", "internal/bytealg.IndexString"], named := ["math/bits.divideError", "math/bits.overflowError", "internal/bytealg.MaxLen"], apart := false, narrowed := true }
def FnRatioTextsUptoSaid : Prop := fnRatioTextsUptoRow.holds Try.pinned (OpenSpec.upto fnRatioTextsSpec)

/-- 'laws.FnExactRingSegs', WHERE WHAT IT READS IS OF BULK AT MOST 1048576: true; the input reads as it did. -/
def fnExactRingSegsUptoRow : OpenClaim := { program := "ytdcajfgeleopiaa", sum := "d14fd76c73c2e81ca14e7de8d4345b44f476cd6ffe02927dfccdc9cf4811e3a0", func := "loop.example/g00225/laws.FnExactRingSegs", spec := "fnExactRingSegs", inPlace := ["math/bits.Add64", "math/bits.Sub64"], unfollowed := true, recurses := true, named := ["math/bits.divideError", "math/bits.overflowError"], apart := false, narrowed := true }
def FnExactRingSegsUptoSaid : Prop := fnExactRingSegsUptoRow.holds Try.pinned (OpenSpec.upto fnExactRingSegsSpec)

/-- 'laws.FnPointTexts', WHERE WHAT IT READS IS OF BULK AT MOST 1048576: true; the input reads as it did. -/
def fnPointTextsUptoRow : OpenClaim := { program := "ytdcajfgeleopiaa", sum := "d14fd76c73c2e81ca14e7de8d4345b44f476cd6ffe02927dfccdc9cf4811e3a0", func := "loop.example/g00225/laws.FnPointTexts", spec := "fnPointTexts", inPlace := ["math/bits.Add64", "math/bits.Sub64", "internal/bytealg.IndexByteString", "internal/bytealg.IndexString"], named := ["math/bits.divideError", "math/bits.overflowError", "internal/bytealg.MaxLen"], apart := false, narrowed := true }
def FnPointTextsUptoSaid : Prop := fnPointTextsUptoRow.holds Try.pinned (OpenSpec.upto fnPointTextsSpec)

/-- 'laws.FnExactLayerFault', WHERE WHAT IT READS IS OF BULK AT MOST 1048576: true; the input reads as it did. -/
def fnExactLayerFaultUptoRow : OpenClaim := { program := "ytdcajfgeleopiaa", sum := "d14fd76c73c2e81ca14e7de8d4345b44f476cd6ffe02927dfccdc9cf4811e3a0", func := "loop.example/g00225/laws.FnExactLayerFault", spec := "fnExactLayerFault", inPlace := ["math/bits.Add64", "math/bits.Sub64"], unfollowed := true, recurses := true, named := ["math/bits.divideError", "math/bits.overflowError"], apart := false, narrowed := true }
def FnExactLayerFaultUptoSaid : Prop := fnExactLayerFaultUptoRow.holds Try.pinned (OpenSpec.upto fnExactLayerFaultSpec)

/-- 'laws.FnRingMoved', WHERE WHAT IT READS IS OF BULK AT MOST 1048576: true; the input reads as it did. -/
def fnRingMovedUptoRow : OpenClaim := { program := "ytdcajfgeleopiaa", sum := "d14fd76c73c2e81ca14e7de8d4345b44f476cd6ffe02927dfccdc9cf4811e3a0", func := "loop.example/g00225/laws.FnRingMoved", spec := "fnRingMoved", inPlace := ["math/bits.Add64", "math/bits.Sub64"], unfollowed := true, recurses := true, named := ["math/bits.divideError", "math/bits.overflowError"], apart := false, narrowed := true }
def FnRingMovedUptoSaid : Prop := fnRingMovedUptoRow.holds Try.pinned (OpenSpec.upto fnRingMovedSpec)

/-- 'laws.FnExactRingIn', WHERE WHAT IT READS IS OF BULK AT MOST 1048576: true; the input reads as it did. -/
def fnExactRingInUptoRow : OpenClaim := { program := "ytdcajfgeleopiaa", sum := "d14fd76c73c2e81ca14e7de8d4345b44f476cd6ffe02927dfccdc9cf4811e3a0", func := "loop.example/g00225/laws.FnExactRingIn", spec := "fnExactRingIn", inPlace := ["math/bits.Add64", "math/bits.Sub64"], unfollowed := true, recurses := true, named := ["math/bits.divideError", "math/bits.overflowError"], apart := false, narrowed := true }
def FnExactRingInUptoSaid : Prop := fnExactRingInUptoRow.holds Try.pinned (OpenSpec.upto fnExactRingInSpec)

/-- 'laws.FnExactRingForm', WHERE WHAT IT READS IS OF BULK AT MOST 1048576: true; the input reads as it did. -/
def fnExactRingFormUptoRow : OpenClaim := { program := "ytdcajfgeleopiaa", sum := "d14fd76c73c2e81ca14e7de8d4345b44f476cd6ffe02927dfccdc9cf4811e3a0", func := "loop.example/g00225/laws.FnExactRingForm", spec := "fnExactRingForm", inPlace := ["math/bits.Add64", "math/bits.Sub64"], unfollowed := true, recurses := true, named := ["math/bits.divideError", "math/bits.overflowError"], apart := false, narrowed := true }
def FnExactRingFormUptoSaid : Prop := fnExactRingFormUptoRow.holds Try.pinned (OpenSpec.upto fnExactRingFormSpec)

end Rows
end Go.Proofs.Ytdcajfgeleopiaa
