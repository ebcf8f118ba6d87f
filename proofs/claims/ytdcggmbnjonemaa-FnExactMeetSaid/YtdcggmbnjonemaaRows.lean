/-
  No cell of these rows narrows 'for every input' (looked for: loops, veiled, ifaces, maps, wideKeys, modest, calm, conditions, laid).
  DERIVED. THE GIVEN ROWS OF THIS SEAT. 6 by the template 'for every input the law returns true; each argument reads behind the call as it read before'; 0 by the template 'total and deterministic' (their statements: YtdcggmbnjonemaaTotals.lean).
  GIVEN WITH THE SEED: the statements are not yours to turn. If you find one false, say at which input.
  Laid BY PROGRAM, IN A SANDBOX (cutbox-rows.mjs): the forced cells as the released guide's own fill.sh prints them over the translation 53d1048ebb6c6823… (all of the seat's roots in one cut). By AI agents, Wed Nov 11 2026. No macro, syntax, notation, axiom, sorry.
-/
import Derived.Test.YtdcggmbnjonemaaChecked
import GoSem.Claim
import GoSem.ClaimJoined
import GoSem.ClaimMapViews
import Derived.JoinedTies
import Derived.KernelRfl
namespace Go.Proofs.Ytdcggmbnjonemaa
/- THE CELL 'sum', in the pinned program and in every row, IS THE sha256 OF THE DUMP (.gsa) THAT YtdcggmbnjonemaaProg.lean LOADS. Nothing in Lean hashes anything: it is a label: what it is worth is what the hold of that sum in a sandbox is worth. -/
noncomputable def Try.pinned : Pinned := { name := "ytdcggmbnjonemaa", sum := "53d1048ebb6c6823f0feb145d6a7088360185d2c60e7f6951a5dc3abe46eab24", checked := Try.checked }
namespace Rows
def none {H : Type} : Left H := { results := [], args := [] }

/-- 'laws.FnExactLoopsOk': WHATEVER THE INPUT: true; the input reads as it did. -/
def fnExactLoopsOkSpec : ChangeSpec := { name := "fnExactLoopsOk", fn := fun _ => fun
  | [d] => { results := [.lit (.bool true)], args := [d] }
  | _ => none }
def fnExactLoopsOkRow : OpenClaim := { program := "ytdcggmbnjonemaa", sum := "53d1048ebb6c6823f0feb145d6a7088360185d2c60e7f6951a5dc3abe46eab24", func := "loop.example/g00225/laws.FnExactLoopsOk", spec := "fnExactLoopsOk", inPlace := ["math/bits.Add64", "math/bits.Sub64"], named := ["math/bits.divideError", "math/bits.overflowError"], apart := false }
def FnExactLoopsOkSaid : Prop := fnExactLoopsOkRow.holds Try.pinned (OpenSpec.ofChange fnExactLoopsOkSpec)

/-- ITS FALSE NEIGHBOUR: 'it returns false'. Refute it at one input. -/
def fnExactLoopsOkWrong : ChangeSpec := { name := "fnExactLoopsOk", fn := fun _ => fun
  | [d] => { results := [.lit (.bool false)], args := [d] }
  | _ => none }
def FnExactLoopsOkWrongFalsely : Prop := fnExactLoopsOkRow.holds Try.pinned (OpenSpec.ofChange fnExactLoopsOkWrong)

/-- 'laws.FnTurns': WHATEVER THE INPUT: true; the input reads as it did. -/
def fnTurnsSpec : ChangeSpec := { name := "fnTurns", fn := fun _ => fun
  | [d] => { results := [.lit (.bool true)], args := [d] }
  | _ => none }
def fnTurnsRow : OpenClaim := { program := "ytdcggmbnjonemaa", sum := "53d1048ebb6c6823f0feb145d6a7088360185d2c60e7f6951a5dc3abe46eab24", func := "loop.example/g00225/laws.FnTurns", spec := "fnTurns", inPlace := ["math/bits.Add64", "math/bits.Sub64"], named := ["math/bits.divideError", "math/bits.overflowError"], apart := false }
def FnTurnsSaid : Prop := fnTurnsRow.holds Try.pinned (OpenSpec.ofChange fnTurnsSpec)

/-- ITS FALSE NEIGHBOUR: 'it returns false'. Refute it at one input. -/
def fnTurnsWrong : ChangeSpec := { name := "fnTurns", fn := fun _ => fun
  | [d] => { results := [.lit (.bool false)], args := [d] }
  | _ => none }
def FnTurnsWrongFalsely : Prop := fnTurnsRow.holds Try.pinned (OpenSpec.ofChange fnTurnsWrong)

/-- 'laws.FnRatioSums': WHATEVER THE INPUT: true; the input reads as it did. -/
def fnRatioSumsSpec : ChangeSpec := { name := "fnRatioSums", fn := fun _ => fun
  | [d] => { results := [.lit (.bool true)], args := [d] }
  | _ => none }
def fnRatioSumsRow : OpenClaim := { program := "ytdcggmbnjonemaa", sum := "53d1048ebb6c6823f0feb145d6a7088360185d2c60e7f6951a5dc3abe46eab24", func := "loop.example/g00225/laws.FnRatioSums", spec := "fnRatioSums", inPlace := ["math/bits.Add64", "math/bits.Sub64"], named := ["math/bits.divideError", "math/bits.overflowError"], apart := false }
def FnRatioSumsSaid : Prop := fnRatioSumsRow.holds Try.pinned (OpenSpec.ofChange fnRatioSumsSpec)

/-- ITS FALSE NEIGHBOUR: 'it returns false'. Refute it at one input. -/
def fnRatioSumsWrong : ChangeSpec := { name := "fnRatioSums", fn := fun _ => fun
  | [d] => { results := [.lit (.bool false)], args := [d] }
  | _ => none }
def FnRatioSumsWrongFalsely : Prop := fnRatioSumsRow.holds Try.pinned (OpenSpec.ofChange fnRatioSumsWrong)

/-- 'laws.FnRatioOrder': WHATEVER THE INPUT: true; the input reads as it did. -/
def fnRatioOrderSpec : ChangeSpec := { name := "fnRatioOrder", fn := fun _ => fun
  | [d] => { results := [.lit (.bool true)], args := [d] }
  | _ => none }
def fnRatioOrderRow : OpenClaim := { program := "ytdcggmbnjonemaa", sum := "53d1048ebb6c6823f0feb145d6a7088360185d2c60e7f6951a5dc3abe46eab24", func := "loop.example/g00225/laws.FnRatioOrder", spec := "fnRatioOrder", inPlace := ["math/bits.Add64", "math/bits.Sub64"], named := ["math/bits.divideError", "math/bits.overflowError"], apart := false }
def FnRatioOrderSaid : Prop := fnRatioOrderRow.holds Try.pinned (OpenSpec.ofChange fnRatioOrderSpec)

/-- ITS FALSE NEIGHBOUR: 'it returns false'. Refute it at one input. -/
def fnRatioOrderWrong : ChangeSpec := { name := "fnRatioOrder", fn := fun _ => fun
  | [d] => { results := [.lit (.bool false)], args := [d] }
  | _ => none }
def FnRatioOrderWrongFalsely : Prop := fnRatioOrderRow.holds Try.pinned (OpenSpec.ofChange fnRatioOrderWrong)

/-- 'laws.FnExactMeet': WHATEVER THE INPUT: true; the input reads as it did. -/
def fnExactMeetSpec : ChangeSpec := { name := "fnExactMeet", fn := fun _ => fun
  | [d1, d2] => { results := [.lit (.bool true)], args := [d1, d2] }
  | _ => none }
def fnExactMeetRow : OpenClaim := { program := "ytdcggmbnjonemaa", sum := "53d1048ebb6c6823f0feb145d6a7088360185d2c60e7f6951a5dc3abe46eab24", func := "loop.example/g00225/laws.FnExactMeet", spec := "fnExactMeet", inPlace := ["math/bits.Add64", "math/bits.Sub64"], unfollowed := true, recurses := true, named := ["math/bits.divideError", "math/bits.overflowError"], apart := false }
def FnExactMeetSaid : Prop := fnExactMeetRow.holds Try.pinned (OpenSpec.ofChange fnExactMeetSpec)

/-- ITS FALSE NEIGHBOUR: 'it returns false'. Refute it at one input. -/
def fnExactMeetWrong : ChangeSpec := { name := "fnExactMeet", fn := fun _ => fun
  | [d1, d2] => { results := [.lit (.bool false)], args := [d1, d2] }
  | _ => none }
def FnExactMeetWrongFalsely : Prop := fnExactMeetRow.holds Try.pinned (OpenSpec.ofChange fnExactMeetWrong)

/-- 'laws.FnExactLoopsSide': WHATEVER THE INPUT: true; the input reads as it did. -/
def fnExactLoopsSideSpec : ChangeSpec := { name := "fnExactLoopsSide", fn := fun _ => fun
  | [d1, d2] => { results := [.lit (.bool true)], args := [d1, d2] }
  | _ => none }
def fnExactLoopsSideRow : OpenClaim := { program := "ytdcggmbnjonemaa", sum := "53d1048ebb6c6823f0feb145d6a7088360185d2c60e7f6951a5dc3abe46eab24", func := "loop.example/g00225/laws.FnExactLoopsSide", spec := "fnExactLoopsSide", inPlace := ["math/bits.Add64", "math/bits.Sub64"], named := ["math/bits.divideError", "math/bits.overflowError"], apart := false }
def FnExactLoopsSideSaid : Prop := fnExactLoopsSideRow.holds Try.pinned (OpenSpec.ofChange fnExactLoopsSideSpec)

/-- ITS FALSE NEIGHBOUR: 'it returns false'. Refute it at one input. -/
def fnExactLoopsSideWrong : ChangeSpec := { name := "fnExactLoopsSide", fn := fun _ => fun
  | [d1, d2] => { results := [.lit (.bool false)], args := [d1, d2] }
  | _ => none }
def FnExactLoopsSideWrongFalsely : Prop := fnExactLoopsSideRow.holds Try.pinned (OpenSpec.ofChange fnExactLoopsSideWrong)

/- THE SECOND FORM. 'bulk': how many values and letters a reading holds, each counted each time it is reached (what is shared counts as often as it is met; a slice's spare places count too). A statement '..UptoSaid' is the law's where the arguments, and the package variables that the reading takes, are together of bulk at most 1048576: NARROWER than '..Said'. Prove '..Said' where nothing that the law and all that it calls make is longer than what came in: it says more and counts as full. Else prove '..UptoSaid'. A law counts once. -/
mutual
def uptoBulk {H : Type} : DataW H → Nat
  | .lit (.string bytes) => bytes.length + 1
  | .lit _ => 1
  | .nil => 1
  | .ptr d => uptoBulk d + 1
  | .slice elems spare => uptoBulkAll elems + uptoBulkAll spare + 1
  | .agg parts => uptoBulkAll parts + 1
  | .iface _ d => uptoBulk d + 1
  | .map entries => uptoBulkEntries entries + 1
  | .held _ => 1
def uptoBulkAll {H : Type} : List (DataW H) → Nat
  | [] => 0
  | d :: r => uptoBulk d + uptoBulkAll r
def uptoBulkEntries {H : Type} : List (Lit × DataW H) → Nat
  | [] => 0
  | x :: r => uptoBulkEntry x + uptoBulkEntries r
def uptoBulkEntry {H : Type} : Lit × DataW H → Nat
  | (.string bytes, d) => bytes.length + uptoBulk d + 1
  | (_, d) => uptoBulk d + 1
 end
def uptoSmall : (H : Type) → List (DataW H) → Bool := fun _ ds => decide (uptoBulkAll ds ≤ 1048576)
def OpenSpec.upto (s : _root_.Go.ChangeSpec) : _root_.Go.OpenSpec := { _root_.Go.OpenSpec.ofChange s with cond := some uptoSmall }

/-- 'laws.FnExactLoopsOk', WHERE WHAT IT READS IS OF BULK AT MOST 1048576: true; the input reads as it did. -/
def fnExactLoopsOkUptoRow : OpenClaim := { program := "ytdcggmbnjonemaa", sum := "53d1048ebb6c6823f0feb145d6a7088360185d2c60e7f6951a5dc3abe46eab24", func := "loop.example/g00225/laws.FnExactLoopsOk", spec := "fnExactLoopsOk", inPlace := ["math/bits.Add64", "math/bits.Sub64"], named := ["math/bits.divideError", "math/bits.overflowError"], apart := false, narrowed := true }
def FnExactLoopsOkUptoSaid : Prop := fnExactLoopsOkUptoRow.holds Try.pinned (OpenSpec.upto fnExactLoopsOkSpec)

/-- 'laws.FnTurns', WHERE WHAT IT READS IS OF BULK AT MOST 1048576: true; the input reads as it did. -/
def fnTurnsUptoRow : OpenClaim := { program := "ytdcggmbnjonemaa", sum := "53d1048ebb6c6823f0feb145d6a7088360185d2c60e7f6951a5dc3abe46eab24", func := "loop.example/g00225/laws.FnTurns", spec := "fnTurns", inPlace := ["math/bits.Add64", "math/bits.Sub64"], named := ["math/bits.divideError", "math/bits.overflowError"], apart := false, narrowed := true }
def FnTurnsUptoSaid : Prop := fnTurnsUptoRow.holds Try.pinned (OpenSpec.upto fnTurnsSpec)

/-- 'laws.FnRatioSums', WHERE WHAT IT READS IS OF BULK AT MOST 1048576: true; the input reads as it did. -/
def fnRatioSumsUptoRow : OpenClaim := { program := "ytdcggmbnjonemaa", sum := "53d1048ebb6c6823f0feb145d6a7088360185d2c60e7f6951a5dc3abe46eab24", func := "loop.example/g00225/laws.FnRatioSums", spec := "fnRatioSums", inPlace := ["math/bits.Add64", "math/bits.Sub64"], named := ["math/bits.divideError", "math/bits.overflowError"], apart := false, narrowed := true }
def FnRatioSumsUptoSaid : Prop := fnRatioSumsUptoRow.holds Try.pinned (OpenSpec.upto fnRatioSumsSpec)

/-- 'laws.FnRatioOrder', WHERE WHAT IT READS IS OF BULK AT MOST 1048576: true; the input reads as it did. -/
def fnRatioOrderUptoRow : OpenClaim := { program := "ytdcggmbnjonemaa", sum := "53d1048ebb6c6823f0feb145d6a7088360185d2c60e7f6951a5dc3abe46eab24", func := "loop.example/g00225/laws.FnRatioOrder", spec := "fnRatioOrder", inPlace := ["math/bits.Add64", "math/bits.Sub64"], named := ["math/bits.divideError", "math/bits.overflowError"], apart := false, narrowed := true }
def FnRatioOrderUptoSaid : Prop := fnRatioOrderUptoRow.holds Try.pinned (OpenSpec.upto fnRatioOrderSpec)

/-- 'laws.FnExactMeet', WHERE WHAT IT READS IS OF BULK AT MOST 1048576: true; the input reads as it did. -/
def fnExactMeetUptoRow : OpenClaim := { program := "ytdcggmbnjonemaa", sum := "53d1048ebb6c6823f0feb145d6a7088360185d2c60e7f6951a5dc3abe46eab24", func := "loop.example/g00225/laws.FnExactMeet", spec := "fnExactMeet", inPlace := ["math/bits.Add64", "math/bits.Sub64"], unfollowed := true, recurses := true, named := ["math/bits.divideError", "math/bits.overflowError"], apart := false, narrowed := true }
def FnExactMeetUptoSaid : Prop := fnExactMeetUptoRow.holds Try.pinned (OpenSpec.upto fnExactMeetSpec)

/-- 'laws.FnExactLoopsSide', WHERE WHAT IT READS IS OF BULK AT MOST 1048576: true; the input reads as it did. -/
def fnExactLoopsSideUptoRow : OpenClaim := { program := "ytdcggmbnjonemaa", sum := "53d1048ebb6c6823f0feb145d6a7088360185d2c60e7f6951a5dc3abe46eab24", func := "loop.example/g00225/laws.FnExactLoopsSide", spec := "fnExactLoopsSide", inPlace := ["math/bits.Add64", "math/bits.Sub64"], named := ["math/bits.divideError", "math/bits.overflowError"], apart := false, narrowed := true }
def FnExactLoopsSideUptoSaid : Prop := fnExactLoopsSideUptoRow.holds Try.pinned (OpenSpec.upto fnExactLoopsSideSpec)

end Rows
end Go.Proofs.Ytdcggmbnjonemaa
