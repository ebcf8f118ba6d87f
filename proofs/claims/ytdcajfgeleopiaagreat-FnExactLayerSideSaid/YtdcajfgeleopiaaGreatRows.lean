/-
  No cell of these rows narrows 'for every input' (looked for: loops, veiled, ifaces, maps, wideKeys, modest, calm, conditions, laid).
  DERIVED. THE GIVEN ROWS OF THIS SEAT. 5 by the template 'for every input the law returns true; each argument reads behind the call as it read before'; 0 by the template 'total and deterministic' (their statements: YtdcajfgeleopiaaGreatTotals.lean).
  GIVEN WITH THE SEED: the statements are not yours to turn. If you find one false, say at which input.
  Laid BY PROGRAM, IN A SANDBOX (cutbox-rows.mjs): the forced cells as the released guide's own fill.sh prints them over the translation 30bf77a4c501e7fe… (all of the seat's roots in one cut). By AI agents, Wed Nov 11 2026. No macro, syntax, notation, axiom, sorry.
-/
import Derived.Test.YtdcajfgeleopiaaGreatChecked
import GoSem.Claim
import GoSem.ClaimJoined
import GoSem.ClaimMapViews
import Derived.JoinedTies
import Derived.KernelRfl
namespace Go.Proofs.YtdcajfgeleopiaaGreat
/- THE CELL 'sum', in the pinned program and in every row, IS THE sha256 OF THE DUMP (.gsa) THAT YtdcajfgeleopiaaGreatProg.lean LOADS. Nothing in Lean hashes anything: it is a label: what it is worth is what the hold of that sum in a sandbox is worth. -/
noncomputable def Tryz.pinned : Pinned := { name := "ytdcajfgeleopiaagreat", sum := "30bf77a4c501e7fe7c7a7be2c727877deaeffc5b74314561747f2161f4f77180", checked := Tryz.checked }
namespace Rows
def none {H : Type} : Left H := { results := [], args := [] }

/-- 'laws.FnExactRingSide': WHATEVER THE INPUT: true; the input reads as it did. -/
def fnExactRingSideSpec : ChangeSpec := { name := "fnExactRingSide", fn := fun _ => fun
  | [d1, d2] => { results := [.lit (.bool true)], args := [d1, d2] }
  | _ => none }
def fnExactRingSideRow : OpenClaim := { program := "ytdcajfgeleopiaagreat", sum := "30bf77a4c501e7fe7c7a7be2c727877deaeffc5b74314561747f2161f4f77180", func := "loop.example/g00225/laws.FnExactRingSide", spec := "fnExactRingSide", inPlace := ["math/bits.Add64", "math/bits.Sub64"], unfollowed := true, recurses := true, named := ["math/bits.divideError", "math/bits.overflowError"], apart := false }
def FnExactRingSideSaid : Prop := fnExactRingSideRow.holds Tryz.pinned (OpenSpec.ofChange fnExactRingSideSpec)

/-- ITS FALSE NEIGHBOUR: 'it returns false'. Refute it at one input. -/
def fnExactRingSideWrong : ChangeSpec := { name := "fnExactRingSide", fn := fun _ => fun
  | [d1, d2] => { results := [.lit (.bool false)], args := [d1, d2] }
  | _ => none }
def FnExactRingSideWrongFalsely : Prop := fnExactRingSideRow.holds Tryz.pinned (OpenSpec.ofChange fnExactRingSideWrong)

/-- 'laws.FnStatus': WHATEVER THE INPUT: true; the input reads as it did. -/
def fnStatusSpec : ChangeSpec := { name := "fnStatus", fn := fun _ => fun
  | [d] => { results := [.lit (.bool true)], args := [d] }
  | _ => none }
def fnStatusRow : OpenClaim := { program := "ytdcajfgeleopiaagreat", sum := "30bf77a4c501e7fe7c7a7be2c727877deaeffc5b74314561747f2161f4f77180", func := "loop.example/g00225/laws.FnStatus", spec := "fnStatus", inPlace := ["math/bits.Add64", "math/bits.Sub64"], unfollowed := true, recurses := true, named := ["math/bits.divideError", "math/bits.overflowError"], apart := false }
def FnStatusSaid : Prop := fnStatusRow.holds Tryz.pinned (OpenSpec.ofChange fnStatusSpec)

/-- ITS FALSE NEIGHBOUR: 'it returns false'. Refute it at one input. -/
def fnStatusWrong : ChangeSpec := { name := "fnStatus", fn := fun _ => fun
  | [d] => { results := [.lit (.bool false)], args := [d] }
  | _ => none }
def FnStatusWrongFalsely : Prop := fnStatusRow.holds Tryz.pinned (OpenSpec.ofChange fnStatusWrong)

/-- 'laws.FnExactDepthOf': WHATEVER THE INPUT: true; the input reads as it did. -/
def fnExactDepthOfSpec : ChangeSpec := { name := "fnExactDepthOf", fn := fun _ => fun
  | [d1, d2] => { results := [.lit (.bool true)], args := [d1, d2] }
  | _ => none }
def fnExactDepthOfRow : OpenClaim := { program := "ytdcajfgeleopiaagreat", sum := "30bf77a4c501e7fe7c7a7be2c727877deaeffc5b74314561747f2161f4f77180", func := "loop.example/g00225/laws.FnExactDepthOf", spec := "fnExactDepthOf", inPlace := ["math/bits.Add64", "math/bits.Sub64"], unfollowed := true, recurses := true, named := ["math/bits.divideError", "math/bits.overflowError"], apart := false }
def FnExactDepthOfSaid : Prop := fnExactDepthOfRow.holds Tryz.pinned (OpenSpec.ofChange fnExactDepthOfSpec)

/-- ITS FALSE NEIGHBOUR: 'it returns false'. Refute it at one input. -/
def fnExactDepthOfWrong : ChangeSpec := { name := "fnExactDepthOf", fn := fun _ => fun
  | [d1, d2] => { results := [.lit (.bool false)], args := [d1, d2] }
  | _ => none }
def FnExactDepthOfWrongFalsely : Prop := fnExactDepthOfRow.holds Tryz.pinned (OpenSpec.ofChange fnExactDepthOfWrong)

/-- 'laws.FnExactLayerArea2': WHATEVER THE INPUT: true; the input reads as it did. -/
def fnExactLayerArea2Spec : ChangeSpec := { name := "fnExactLayerArea2", fn := fun _ => fun
  | [d] => { results := [.lit (.bool true)], args := [d] }
  | _ => none }
def fnExactLayerArea2Row : OpenClaim := { program := "ytdcajfgeleopiaagreat", sum := "30bf77a4c501e7fe7c7a7be2c727877deaeffc5b74314561747f2161f4f77180", func := "loop.example/g00225/laws.FnExactLayerArea2", spec := "fnExactLayerArea2", inPlace := ["math/bits.Add64", "math/bits.Sub64"], unfollowed := true, recurses := true, named := ["math/bits.divideError", "math/bits.overflowError"], apart := false }
def FnExactLayerArea2Said : Prop := fnExactLayerArea2Row.holds Tryz.pinned (OpenSpec.ofChange fnExactLayerArea2Spec)

/-- ITS FALSE NEIGHBOUR: 'it returns false'. Refute it at one input. -/
def fnExactLayerArea2Wrong : ChangeSpec := { name := "fnExactLayerArea2", fn := fun _ => fun
  | [d] => { results := [.lit (.bool false)], args := [d] }
  | _ => none }
def FnExactLayerArea2WrongFalsely : Prop := fnExactLayerArea2Row.holds Tryz.pinned (OpenSpec.ofChange fnExactLayerArea2Wrong)

/-- 'laws.FnExactLayerSide': WHATEVER THE INPUT: true; the input reads as it did. -/
def fnExactLayerSideSpec : ChangeSpec := { name := "fnExactLayerSide", fn := fun _ => fun
  | [d1, d2] => { results := [.lit (.bool true)], args := [d1, d2] }
  | _ => none }
def fnExactLayerSideRow : OpenClaim := { program := "ytdcajfgeleopiaagreat", sum := "30bf77a4c501e7fe7c7a7be2c727877deaeffc5b74314561747f2161f4f77180", func := "loop.example/g00225/laws.FnExactLayerSide", spec := "fnExactLayerSide", inPlace := ["math/bits.Add64", "math/bits.Sub64"], unfollowed := true, recurses := true, named := ["math/bits.divideError", "math/bits.overflowError"], apart := false }
def FnExactLayerSideSaid : Prop := fnExactLayerSideRow.holds Tryz.pinned (OpenSpec.ofChange fnExactLayerSideSpec)

/-- ITS FALSE NEIGHBOUR: 'it returns false'. Refute it at one input. -/
def fnExactLayerSideWrong : ChangeSpec := { name := "fnExactLayerSide", fn := fun _ => fun
  | [d1, d2] => { results := [.lit (.bool false)], args := [d1, d2] }
  | _ => none }
def FnExactLayerSideWrongFalsely : Prop := fnExactLayerSideRow.holds Tryz.pinned (OpenSpec.ofChange fnExactLayerSideWrong)

/- THE SECOND FORM. 'bulk': how many values and letters a reading holds, each counted each time it is reached (what is shared counts as often as it is met; a slice's spare places count too). A statement '..UptoSaid' is the law's where the arguments, and the package variables that the reading takes, are together of bulk at most 1048576: NARROWER than '..Said'. Prove '..Said' where nothing that the law and all that it calls make is longer than what came in: it says more and counts as full. Else prove '..UptoSaid'. A law counts once. -/
mutual
def uptoBulk {H : Type} : DataW H → Nat
  | .lit (.string bytes) => bytes.length + 1
  | .lit _ => 1
  | .nil => 1
  | .ptr d => uptoBulk d + 1
  | .slice elems spare => uptoBulkAll elems + uptoBulkAll spare + 1
  | .agg parts => uptoBulkAll parts + 1
  | .iface _ d => uptoBulk d + 1
  | .map entries => uptoBulkEntries entries + 1
  | .held _ => 1
def uptoBulkAll {H : Type} : List (DataW H) → Nat
  | [] => 0
  | d :: r => uptoBulk d + uptoBulkAll r
def uptoBulkEntries {H : Type} : List (Lit × DataW H) → Nat
  | [] => 0
  | x :: r => uptoBulkEntry x + uptoBulkEntries r
def uptoBulkEntry {H : Type} : Lit × DataW H → Nat
  | (.string bytes, d) => bytes.length + uptoBulk d + 1
  | (_, d) => uptoBulk d + 1
 end
def uptoSmall : (H : Type) → List (DataW H) → Bool := fun _ ds => decide (uptoBulkAll ds ≤ 1048576)
def OpenSpec.upto (s : _root_.Go.ChangeSpec) : _root_.Go.OpenSpec := { _root_.Go.OpenSpec.ofChange s with cond := some uptoSmall }

/-- 'laws.FnExactRingSide', WHERE WHAT IT READS IS OF BULK AT MOST 1048576: true; the input reads as it did. -/
def fnExactRingSideUptoRow : OpenClaim := { program := "ytdcajfgeleopiaagreat", sum := "30bf77a4c501e7fe7c7a7be2c727877deaeffc5b74314561747f2161f4f77180", func := "loop.example/g00225/laws.FnExactRingSide", spec := "fnExactRingSide", inPlace := ["math/bits.Add64", "math/bits.Sub64"], unfollowed := true, recurses := true, named := ["math/bits.divideError", "math/bits.overflowError"], apart := false, narrowed := true }
def FnExactRingSideUptoSaid : Prop := fnExactRingSideUptoRow.holds Tryz.pinned (OpenSpec.upto fnExactRingSideSpec)

/-- 'laws.FnStatus', WHERE WHAT IT READS IS OF BULK AT MOST 1048576: true; the input reads as it did. -/
def fnStatusUptoRow : OpenClaim := { program := "ytdcajfgeleopiaagreat", sum := "30bf77a4c501e7fe7c7a7be2c727877deaeffc5b74314561747f2161f4f77180", func := "loop.example/g00225/laws.FnStatus", spec := "fnStatus", inPlace := ["math/bits.Add64", "math/bits.Sub64"], unfollowed := true, recurses := true, named := ["math/bits.divideError", "math/bits.overflowError"], apart := false, narrowed := true }
def FnStatusUptoSaid : Prop := fnStatusUptoRow.holds Tryz.pinned (OpenSpec.upto fnStatusSpec)

/-- 'laws.FnExactDepthOf', WHERE WHAT IT READS IS OF BULK AT MOST 1048576: true; the input reads as it did. -/
def fnExactDepthOfUptoRow : OpenClaim := { program := "ytdcajfgeleopiaagreat", sum := "30bf77a4c501e7fe7c7a7be2c727877deaeffc5b74314561747f2161f4f77180", func := "loop.example/g00225/laws.FnExactDepthOf", spec := "fnExactDepthOf", inPlace := ["math/bits.Add64", "math/bits.Sub64"], unfollowed := true, recurses := true, named := ["math/bits.divideError", "math/bits.overflowError"], apart := false, narrowed := true }
def FnExactDepthOfUptoSaid : Prop := fnExactDepthOfUptoRow.holds Tryz.pinned (OpenSpec.upto fnExactDepthOfSpec)

/-- 'laws.FnExactLayerArea2', WHERE WHAT IT READS IS OF BULK AT MOST 1048576: true; the input reads as it did. -/
def fnExactLayerArea2UptoRow : OpenClaim := { program := "ytdcajfgeleopiaagreat", sum := "30bf77a4c501e7fe7c7a7be2c727877deaeffc5b74314561747f2161f4f77180", func := "loop.example/g00225/laws.FnExactLayerArea2", spec := "fnExactLayerArea2", inPlace := ["math/bits.Add64", "math/bits.Sub64"], unfollowed := true, recurses := true, named := ["math/bits.divideError", "math/bits.overflowError"], apart := false, narrowed := true }
def FnExactLayerArea2UptoSaid : Prop := fnExactLayerArea2UptoRow.holds Tryz.pinned (OpenSpec.upto fnExactLayerArea2Spec)

/-- 'laws.FnExactLayerSide', WHERE WHAT IT READS IS OF BULK AT MOST 1048576: true; the input reads as it did. -/
def fnExactLayerSideUptoRow : OpenClaim := { program := "ytdcajfgeleopiaagreat", sum := "30bf77a4c501e7fe7c7a7be2c727877deaeffc5b74314561747f2161f4f77180", func := "loop.example/g00225/laws.FnExactLayerSide", spec := "fnExactLayerSide", inPlace := ["math/bits.Add64", "math/bits.Sub64"], unfollowed := true, recurses := true, named := ["math/bits.divideError", "math/bits.overflowError"], apart := false, narrowed := true }
def FnExactLayerSideUptoSaid : Prop := fnExactLayerSideUptoRow.holds Tryz.pinned (OpenSpec.upto fnExactLayerSideSpec)

end Rows
end Go.Proofs.YtdcajfgeleopiaaGreat
