/-
  No cell of these rows narrows 'for every input' (looked for: loops, veiled, ifaces, maps, wideKeys, modest, calm, conditions, laid).
  DERIVED. THE GIVEN ROWS OF THIS SEAT. 11 by the template 'for every input the law returns true; each argument reads behind the call as it read before'; 0 by the template 'total and deterministic' (their statements: YtaibemhdfhchfaaGreatTotals.lean).
  GIVEN WITH THE SEED: the statements are not yours to turn. If you find one false, say at which input.
  Laid BY PROGRAM, IN A SANDBOX (cutbox-rows.mjs): the forced cells as the released guide's own fill.sh prints them over the translation c4a7aea14eace085… (all of the seat's roots in one cut). By AI agents, Wed Nov 11 2026. No macro, syntax, notation, axiom, sorry.
-/
import Derived.Test.YtaibemhdfhchfaaGreatChecked
import GoSem.Claim
import GoSem.ClaimJoined
import GoSem.ClaimMapViews
import Derived.JoinedTies
import Derived.KernelRfl
namespace Go.Proofs.YtaibemhdfhchfaaGreat
/- THE CELL 'sum', in the pinned program and in every row, IS THE sha256 OF THE DUMP (.gsa) THAT YtaibemhdfhchfaaGreatProg.lean LOADS. Nothing in Lean hashes anything: it is a label: what it is worth is what the hold of that sum in a sandbox is worth. -/
noncomputable def Tryz.pinned : Pinned := { name := "ytaibemhdfhchfaagreat", sum := "c4a7aea14eace0852be4b0dcebeaa1c277c61511129fd77ae39c67d4da460211", checked := Tryz.checked }
namespace Rows
def none {H : Type} : Left H := { results := [], args := [] }

/-- 'laws.FnStatus': WHATEVER THE INPUT: true; the input reads as it did. -/
def fnStatusSpec : ChangeSpec := { name := "fnStatus", fn := fun _ => fun
  | [d] => { results := [.lit (.bool true)], args := [d] }
  | _ => none }
def fnStatusRow : OpenClaim := { program := "ytaibemhdfhchfaagreat", sum := "c4a7aea14eace0852be4b0dcebeaa1c277c61511129fd77ae39c67d4da460211", func := "loop.example/g00225/laws.FnStatus", spec := "fnStatus", inPlace := ["math/bits.Add64", "math/bits.Sub64"], unfollowed := true, recurses := true, named := ["math/bits.divideError", "math/bits.overflowError"], plainKeys := false, apart := false }
def FnStatusSaid : Prop := fnStatusRow.holds Tryz.pinned (OpenSpec.ofChange fnStatusSpec)

/-- ITS FALSE NEIGHBOUR: 'it returns false'. Refute it at one input. -/
def fnStatusWrong : ChangeSpec := { name := "fnStatus", fn := fun _ => fun
  | [d] => { results := [.lit (.bool false)], args := [d] }
  | _ => none }
def FnStatusWrongFalsely : Prop := fnStatusRow.holds Tryz.pinned (OpenSpec.ofChange fnStatusWrong)

/-- 'laws.FnRingTurned': WHATEVER THE INPUT: true; the input reads as it did. -/
def fnRingTurnedSpec : ChangeSpec := { name := "fnRingTurned", fn := fun _ => fun
  | [d] => { results := [.lit (.bool true)], args := [d] }
  | _ => none }
def fnRingTurnedRow : OpenClaim := { program := "ytaibemhdfhchfaagreat", sum := "c4a7aea14eace0852be4b0dcebeaa1c277c61511129fd77ae39c67d4da460211", func := "loop.example/g00225/laws.FnRingTurned", spec := "fnRingTurned", inPlace := ["math/bits.Add64", "math/bits.Sub64"], unfollowed := true, recurses := true, named := ["math/bits.divideError", "math/bits.overflowError"], plainKeys := false, apart := false }
def FnRingTurnedSaid : Prop := fnRingTurnedRow.holds Tryz.pinned (OpenSpec.ofChange fnRingTurnedSpec)

/-- ITS FALSE NEIGHBOUR: 'it returns false'. Refute it at one input. -/
def fnRingTurnedWrong : ChangeSpec := { name := "fnRingTurned", fn := fun _ => fun
  | [d] => { results := [.lit (.bool false)], args := [d] }
  | _ => none }
def FnRingTurnedWrongFalsely : Prop := fnRingTurnedRow.holds Tryz.pinned (OpenSpec.ofChange fnRingTurnedWrong)

/-- 'laws.FnPairs': WHATEVER THE INPUT: true; the input reads as it did. -/
def fnPairsSpec : ChangeSpec := { name := "fnPairs", fn := fun _ => fun
  | [d] => { results := [.lit (.bool true)], args := [d] }
  | _ => none }
def fnPairsRow : OpenClaim := { program := "ytaibemhdfhchfaagreat", sum := "c4a7aea14eace0852be4b0dcebeaa1c277c61511129fd77ae39c67d4da460211", func := "loop.example/g00225/laws.FnPairs", spec := "fnPairs", inPlace := ["math/bits.Add64", "math/bits.Sub64"], unfollowed := true, recurses := true, named := ["math/bits.divideError", "math/bits.overflowError"], plainKeys := false, apart := false }
def FnPairsSaid : Prop := fnPairsRow.holds Tryz.pinned (OpenSpec.ofChange fnPairsSpec)

/-- ITS FALSE NEIGHBOUR: 'it returns false'. Refute it at one input. -/
def fnPairsWrong : ChangeSpec := { name := "fnPairs", fn := fun _ => fun
  | [d] => { results := [.lit (.bool false)], args := [d] }
  | _ => none }
def FnPairsWrongFalsely : Prop := fnPairsRow.holds Tryz.pinned (OpenSpec.ofChange fnPairsWrong)

/-- 'laws.FnEventsRise': WHATEVER THE INPUT: true; the input reads as it did. -/
def fnEventsRiseSpec : ChangeSpec := { name := "fnEventsRise", fn := fun _ => fun
  | [d] => { results := [.lit (.bool true)], args := [d] }
  | _ => none }
def fnEventsRiseRow : OpenClaim := { program := "ytaibemhdfhchfaagreat", sum := "c4a7aea14eace0852be4b0dcebeaa1c277c61511129fd77ae39c67d4da460211", func := "loop.example/g00225/laws.FnEventsRise", spec := "fnEventsRise", inPlace := ["math/bits.Add64", "math/bits.Sub64", "slices.overlaps[loop.example/g00225/impl.Event]"], recurses := true, named := ["math/bits.divideError", "math/bits.overflowError"], plainKeys := false, apart := false }
def FnEventsRiseSaid : Prop := fnEventsRiseRow.holds Tryz.pinned (OpenSpec.ofChange fnEventsRiseSpec)

/-- ITS FALSE NEIGHBOUR: 'it returns false'. Refute it at one input. -/
def fnEventsRiseWrong : ChangeSpec := { name := "fnEventsRise", fn := fun _ => fun
  | [d] => { results := [.lit (.bool false)], args := [d] }
  | _ => none }
def FnEventsRiseWrongFalsely : Prop := fnEventsRiseRow.holds Tryz.pinned (OpenSpec.ofChange fnEventsRiseWrong)

/-- 'laws.FnHits': WHATEVER THE INPUT: true; the input reads as it did. -/
def fnHitsSpec : ChangeSpec := { name := "fnHits", fn := fun _ => fun
  | [d] => { results := [.lit (.bool true)], args := [d] }
  | _ => none }
def fnHitsRow : OpenClaim := { program := "ytaibemhdfhchfaagreat", sum := "c4a7aea14eace0852be4b0dcebeaa1c277c61511129fd77ae39c67d4da460211", func := "loop.example/g00225/laws.FnHits", spec := "fnHits", inPlace := ["math/bits.Add64", "math/bits.Sub64"], unfollowed := true, recurses := true, named := ["math/bits.divideError", "math/bits.overflowError"], plainKeys := false, apart := false }
def FnHitsSaid : Prop := fnHitsRow.holds Tryz.pinned (OpenSpec.ofChange fnHitsSpec)

/-- ITS FALSE NEIGHBOUR: 'it returns false'. Refute it at one input. -/
def fnHitsWrong : ChangeSpec := { name := "fnHits", fn := fun _ => fun
  | [d] => { results := [.lit (.bool false)], args := [d] }
  | _ => none }
def FnHitsWrongFalsely : Prop := fnHitsRow.holds Tryz.pinned (OpenSpec.ofChange fnHitsWrong)

/-- 'laws.FnExactLayerSegs': WHATEVER THE INPUT: true; the input reads as it did. -/
def fnExactLayerSegsSpec : ChangeSpec := { name := "fnExactLayerSegs", fn := fun _ => fun
  | [d] => { results := [.lit (.bool true)], args := [d] }
  | _ => none }
def fnExactLayerSegsRow : OpenClaim := { program := "ytaibemhdfhchfaagreat", sum := "c4a7aea14eace0852be4b0dcebeaa1c277c61511129fd77ae39c67d4da460211", func := "loop.example/g00225/laws.FnExactLayerSegs", spec := "fnExactLayerSegs", inPlace := ["math/bits.Add64", "math/bits.Sub64"], unfollowed := true, recurses := true, named := ["math/bits.divideError", "math/bits.overflowError"], plainKeys := false, apart := false }
def FnExactLayerSegsSaid : Prop := fnExactLayerSegsRow.holds Tryz.pinned (OpenSpec.ofChange fnExactLayerSegsSpec)

/-- ITS FALSE NEIGHBOUR: 'it returns false'. Refute it at one input. -/
def fnExactLayerSegsWrong : ChangeSpec := { name := "fnExactLayerSegs", fn := fun _ => fun
  | [d] => { results := [.lit (.bool false)], args := [d] }
  | _ => none }
def FnExactLayerSegsWrongFalsely : Prop := fnExactLayerSegsRow.holds Tryz.pinned (OpenSpec.ofChange fnExactLayerSegsWrong)

/-- 'laws.FnExactOverlaid': WHATEVER THE INPUT: true; the input reads as it did. -/
def fnExactOverlaidSpec : ChangeSpec := { name := "fnExactOverlaid", fn := fun _ => fun
  | [d1, d2] => { results := [.lit (.bool true)], args := [d1, d2] }
  | _ => none }
def fnExactOverlaidRow : OpenClaim := { program := "ytaibemhdfhchfaagreat", sum := "c4a7aea14eace0852be4b0dcebeaa1c277c61511129fd77ae39c67d4da460211", func := "loop.example/g00225/laws.FnExactOverlaid", spec := "fnExactOverlaid", inPlace := ["math/bits.Add64", "math/bits.Sub64"], unfollowed := true, recurses := true, named := ["math/bits.divideError", "math/bits.overflowError"], plainKeys := false, apart := false }
def FnExactOverlaidSaid : Prop := fnExactOverlaidRow.holds Tryz.pinned (OpenSpec.ofChange fnExactOverlaidSpec)

/-- ITS FALSE NEIGHBOUR: 'it returns false'. Refute it at one input. -/
def fnExactOverlaidWrong : ChangeSpec := { name := "fnExactOverlaid", fn := fun _ => fun
  | [d1, d2] => { results := [.lit (.bool false)], args := [d1, d2] }
  | _ => none }
def FnExactOverlaidWrongFalsely : Prop := fnExactOverlaidRow.holds Tryz.pinned (OpenSpec.ofChange fnExactOverlaidWrong)

/-- 'laws.FnExactHitsOf': WHATEVER THE INPUT: true; the input reads as it did. -/
def fnExactHitsOfSpec : ChangeSpec := { name := "fnExactHitsOf", fn := fun _ => fun
  | [d] => { results := [.lit (.bool true)], args := [d] }
  | _ => none }
def fnExactHitsOfRow : OpenClaim := { program := "ytaibemhdfhchfaagreat", sum := "c4a7aea14eace0852be4b0dcebeaa1c277c61511129fd77ae39c67d4da460211", func := "loop.example/g00225/laws.FnExactHitsOf", spec := "fnExactHitsOf", inPlace := ["math/bits.Add64", "math/bits.Sub64"], unfollowed := true, recurses := true, named := ["math/bits.divideError", "math/bits.overflowError"], plainKeys := false, apart := false }
def FnExactHitsOfSaid : Prop := fnExactHitsOfRow.holds Tryz.pinned (OpenSpec.ofChange fnExactHitsOfSpec)

/-- ITS FALSE NEIGHBOUR: 'it returns false'. Refute it at one input. -/
def fnExactHitsOfWrong : ChangeSpec := { name := "fnExactHitsOf", fn := fun _ => fun
  | [d] => { results := [.lit (.bool false)], args := [d] }
  | _ => none }
def FnExactHitsOfWrongFalsely : Prop := fnExactHitsOfRow.holds Tryz.pinned (OpenSpec.ofChange fnExactHitsOfWrong)

/-- 'laws.FnExactEdgesOn': WHATEVER THE INPUT: true; the input reads as it did. -/
def fnExactEdgesOnSpec : ChangeSpec := { name := "fnExactEdgesOn", fn := fun _ => fun
  | [d1, d2] => { results := [.lit (.bool true)], args := [d1, d2] }
  | _ => none }
def fnExactEdgesOnRow : OpenClaim := { program := "ytaibemhdfhchfaagreat", sum := "c4a7aea14eace0852be4b0dcebeaa1c277c61511129fd77ae39c67d4da460211", func := "loop.example/g00225/laws.FnExactEdgesOn", spec := "fnExactEdgesOn", inPlace := ["math/bits.Add64", "math/bits.Sub64"], unfollowed := true, recurses := true, named := ["math/bits.divideError", "math/bits.overflowError"], plainKeys := false, apart := false }
def FnExactEdgesOnSaid : Prop := fnExactEdgesOnRow.holds Tryz.pinned (OpenSpec.ofChange fnExactEdgesOnSpec)

/-- ITS FALSE NEIGHBOUR: 'it returns false'. Refute it at one input. -/
def fnExactEdgesOnWrong : ChangeSpec := { name := "fnExactEdgesOn", fn := fun _ => fun
  | [d1, d2] => { results := [.lit (.bool false)], args := [d1, d2] }
  | _ => none }
def FnExactEdgesOnWrongFalsely : Prop := fnExactEdgesOnRow.holds Tryz.pinned (OpenSpec.ofChange fnExactEdgesOnWrong)

/-- 'laws.FnExactDegreeOf': WHATEVER THE INPUT: true; the input reads as it did. -/
def fnExactDegreeOfSpec : ChangeSpec := { name := "fnExactDegreeOf", fn := fun _ => fun
  | [d1, d2] => { results := [.lit (.bool true)], args := [d1, d2] }
  | _ => none }
def fnExactDegreeOfRow : OpenClaim := { program := "ytaibemhdfhchfaagreat", sum := "c4a7aea14eace0852be4b0dcebeaa1c277c61511129fd77ae39c67d4da460211", func := "loop.example/g00225/laws.FnExactDegreeOf", spec := "fnExactDegreeOf", inPlace := ["math/bits.Add64", "math/bits.Sub64"], unfollowed := true, recurses := true, named := ["math/bits.divideError", "math/bits.overflowError"], plainKeys := false, apart := false }
def FnExactDegreeOfSaid : Prop := fnExactDegreeOfRow.holds Tryz.pinned (OpenSpec.ofChange fnExactDegreeOfSpec)

/-- ITS FALSE NEIGHBOUR: 'it returns false'. Refute it at one input. -/
def fnExactDegreeOfWrong : ChangeSpec := { name := "fnExactDegreeOf", fn := fun _ => fun
  | [d1, d2] => { results := [.lit (.bool false)], args := [d1, d2] }
  | _ => none }
def FnExactDegreeOfWrongFalsely : Prop := fnExactDegreeOfRow.holds Tryz.pinned (OpenSpec.ofChange fnExactDegreeOfWrong)

/-- 'laws.FnExactAround': WHATEVER THE INPUT: true; the input reads as it did. -/
def fnExactAroundSpec : ChangeSpec := { name := "fnExactAround", fn := fun _ => fun
  | [d1, d2] => { results := [.lit (.bool true)], args := [d1, d2] }
  | _ => none }
def fnExactAroundRow : OpenClaim := { program := "ytaibemhdfhchfaagreat", sum := "c4a7aea14eace0852be4b0dcebeaa1c277c61511129fd77ae39c67d4da460211", func := "loop.example/g00225/laws.FnExactAround", spec := "fnExactAround", inPlace := ["math/bits.Add64", "math/bits.Sub64"], unfollowed := true, recurses := true, named := ["math/bits.divideError", "math/bits.overflowError"], plainKeys := false, apart := false }
def FnExactAroundSaid : Prop := fnExactAroundRow.holds Tryz.pinned (OpenSpec.ofChange fnExactAroundSpec)

/-- ITS FALSE NEIGHBOUR: 'it returns false'. Refute it at one input. -/
def fnExactAroundWrong : ChangeSpec := { name := "fnExactAround", fn := fun _ => fun
  | [d1, d2] => { results := [.lit (.bool false)], args := [d1, d2] }
  | _ => none }
def FnExactAroundWrongFalsely : Prop := fnExactAroundRow.holds Tryz.pinned (OpenSpec.ofChange fnExactAroundWrong)

/- THE SECOND FORM. 'bulk': how many values and letters a reading holds, each counted each time it is reached (what is shared counts as often as it is met; a slice's spare places count too). A statement '..UptoSaid' is the law's where the arguments, and the package variables that the reading takes, are together of bulk at most 1048576: NARROWER than '..Said'. Prove '..Said' where nothing that the law and all that it calls make is longer than what came in: it says more and counts as full. Else prove '..UptoSaid'. A law counts once. -/
mutual
def uptoBulk {H : Type} : DataW H → Nat
  | .lit (.string bytes) => bytes.length + 1
  | .lit _ => 1
  | .nil => 1
  | .ptr d => uptoBulk d + 1
  | .slice elems spare => uptoBulkAll elems + uptoBulkAll spare + 1
  | .agg parts => uptoBulkAll parts + 1
  | .iface _ d => uptoBulk d + 1
  | .map entries => uptoBulkEntries entries + 1
  | .held _ => 1
def uptoBulkAll {H : Type} : List (DataW H) → Nat
  | [] => 0
  | d :: r => uptoBulk d + uptoBulkAll r
def uptoBulkEntries {H : Type} : List (Lit × DataW H) → Nat
  | [] => 0
  | x :: r => uptoBulkEntry x + uptoBulkEntries r
def uptoBulkEntry {H : Type} : Lit × DataW H → Nat
  | (.string bytes, d) => bytes.length + uptoBulk d + 1
  | (_, d) => uptoBulk d + 1
 end
def uptoSmall : (H : Type) → List (DataW H) → Bool := fun _ ds => decide (uptoBulkAll ds ≤ 1048576)
def OpenSpec.upto (s : _root_.Go.ChangeSpec) : _root_.Go.OpenSpec := { _root_.Go.OpenSpec.ofChange s with cond := some uptoSmall }

/-- 'laws.FnStatus', WHERE WHAT IT READS IS OF BULK AT MOST 1048576: true; the input reads as it did. -/
def fnStatusUptoRow : OpenClaim := { program := "ytaibemhdfhchfaagreat", sum := "c4a7aea14eace0852be4b0dcebeaa1c277c61511129fd77ae39c67d4da460211", func := "loop.example/g00225/laws.FnStatus", spec := "fnStatus", inPlace := ["math/bits.Add64", "math/bits.Sub64"], unfollowed := true, recurses := true, named := ["math/bits.divideError", "math/bits.overflowError"], plainKeys := false, apart := false, narrowed := true }
def FnStatusUptoSaid : Prop := fnStatusUptoRow.holds Tryz.pinned (OpenSpec.upto fnStatusSpec)

/-- 'laws.FnRingTurned', WHERE WHAT IT READS IS OF BULK AT MOST 1048576: true; the input reads as it did. -/
def fnRingTurnedUptoRow : OpenClaim := { program := "ytaibemhdfhchfaagreat", sum := "c4a7aea14eace0852be4b0dcebeaa1c277c61511129fd77ae39c67d4da460211", func := "loop.example/g00225/laws.FnRingTurned", spec := "fnRingTurned", inPlace := ["math/bits.Add64", "math/bits.Sub64"], unfollowed := true, recurses := true, named := ["math/bits.divideError", "math/bits.overflowError"], plainKeys := false, apart := false, narrowed := true }
def FnRingTurnedUptoSaid : Prop := fnRingTurnedUptoRow.holds Tryz.pinned (OpenSpec.upto fnRingTurnedSpec)

/-- 'laws.FnPairs', WHERE WHAT IT READS IS OF BULK AT MOST 1048576: true; the input reads as it did. -/
def fnPairsUptoRow : OpenClaim := { program := "ytaibemhdfhchfaagreat", sum := "c4a7aea14eace0852be4b0dcebeaa1c277c61511129fd77ae39c67d4da460211", func := "loop.example/g00225/laws.FnPairs", spec := "fnPairs", inPlace := ["math/bits.Add64", "math/bits.Sub64"], unfollowed := true, recurses := true, named := ["math/bits.divideError", "math/bits.overflowError"], plainKeys := false, apart := false, narrowed := true }
def FnPairsUptoSaid : Prop := fnPairsUptoRow.holds Tryz.pinned (OpenSpec.upto fnPairsSpec)

/-- 'laws.FnEventsRise', WHERE WHAT IT READS IS OF BULK AT MOST 1048576: true; the input reads as it did. -/
def fnEventsRiseUptoRow : OpenClaim := { program := "ytaibemhdfhchfaagreat", sum := "c4a7aea14eace0852be4b0dcebeaa1c277c61511129fd77ae39c67d4da460211", func := "loop.example/g00225/laws.FnEventsRise", spec := "fnEventsRise", inPlace := ["math/bits.Add64", "math/bits.Sub64", "slices.overlaps[loop.example/g00225/impl.Event]"], recurses := true, named := ["math/bits.divideError", "math/bits.overflowError"], plainKeys := false, apart := false, narrowed := true }
def FnEventsRiseUptoSaid : Prop := fnEventsRiseUptoRow.holds Tryz.pinned (OpenSpec.upto fnEventsRiseSpec)

/-- 'laws.FnHits', WHERE WHAT IT READS IS OF BULK AT MOST 1048576: true; the input reads as it did. -/
def fnHitsUptoRow : OpenClaim := { program := "ytaibemhdfhchfaagreat", sum := "c4a7aea14eace0852be4b0dcebeaa1c277c61511129fd77ae39c67d4da460211", func := "loop.example/g00225/laws.FnHits", spec := "fnHits", inPlace := ["math/bits.Add64", "math/bits.Sub64"], unfollowed := true, recurses := true, named := ["math/bits.divideError", "math/bits.overflowError"], plainKeys := false, apart := false, narrowed := true }
def FnHitsUptoSaid : Prop := fnHitsUptoRow.holds Tryz.pinned (OpenSpec.upto fnHitsSpec)

/-- 'laws.FnExactLayerSegs', WHERE WHAT IT READS IS OF BULK AT MOST 1048576: true; the input reads as it did. -/
def fnExactLayerSegsUptoRow : OpenClaim := { program := "ytaibemhdfhchfaagreat", sum := "c4a7aea14eace0852be4b0dcebeaa1c277c61511129fd77ae39c67d4da460211", func := "loop.example/g00225/laws.FnExactLayerSegs", spec := "fnExactLayerSegs", inPlace := ["math/bits.Add64", "math/bits.Sub64"], unfollowed := true, recurses := true, named := ["math/bits.divideError", "math/bits.overflowError"], plainKeys := false, apart := false, narrowed := true }
def FnExactLayerSegsUptoSaid : Prop := fnExactLayerSegsUptoRow.holds Tryz.pinned (OpenSpec.upto fnExactLayerSegsSpec)

/-- 'laws.FnExactOverlaid', WHERE WHAT IT READS IS OF BULK AT MOST 1048576: true; the input reads as it did. -/
def fnExactOverlaidUptoRow : OpenClaim := { program := "ytaibemhdfhchfaagreat", sum := "c4a7aea14eace0852be4b0dcebeaa1c277c61511129fd77ae39c67d4da460211", func := "loop.example/g00225/laws.FnExactOverlaid", spec := "fnExactOverlaid", inPlace := ["math/bits.Add64", "math/bits.Sub64"], unfollowed := true, recurses := true, named := ["math/bits.divideError", "math/bits.overflowError"], plainKeys := false, apart := false, narrowed := true }
def FnExactOverlaidUptoSaid : Prop := fnExactOverlaidUptoRow.holds Tryz.pinned (OpenSpec.upto fnExactOverlaidSpec)

/-- 'laws.FnExactHitsOf', WHERE WHAT IT READS IS OF BULK AT MOST 1048576: true; the input reads as it did. -/
def fnExactHitsOfUptoRow : OpenClaim := { program := "ytaibemhdfhchfaagreat", sum := "c4a7aea14eace0852be4b0dcebeaa1c277c61511129fd77ae39c67d4da460211", func := "loop.example/g00225/laws.FnExactHitsOf", spec := "fnExactHitsOf", inPlace := ["math/bits.Add64", "math/bits.Sub64"], unfollowed := true, recurses := true, named := ["math/bits.divideError", "math/bits.overflowError"], plainKeys := false, apart := false, narrowed := true }
def FnExactHitsOfUptoSaid : Prop := fnExactHitsOfUptoRow.holds Tryz.pinned (OpenSpec.upto fnExactHitsOfSpec)

/-- 'laws.FnExactEdgesOn', WHERE WHAT IT READS IS OF BULK AT MOST 1048576: true; the input reads as it did. -/
def fnExactEdgesOnUptoRow : OpenClaim := { program := "ytaibemhdfhchfaagreat", sum := "c4a7aea14eace0852be4b0dcebeaa1c277c61511129fd77ae39c67d4da460211", func := "loop.example/g00225/laws.FnExactEdgesOn", spec := "fnExactEdgesOn", inPlace := ["math/bits.Add64", "math/bits.Sub64"], unfollowed := true, recurses := true, named := ["math/bits.divideError", "math/bits.overflowError"], plainKeys := false, apart := false, narrowed := true }
def FnExactEdgesOnUptoSaid : Prop := fnExactEdgesOnUptoRow.holds Tryz.pinned (OpenSpec.upto fnExactEdgesOnSpec)

/-- 'laws.FnExactDegreeOf', WHERE WHAT IT READS IS OF BULK AT MOST 1048576: true; the input reads as it did. -/
def fnExactDegreeOfUptoRow : OpenClaim := { program := "ytaibemhdfhchfaagreat", sum := "c4a7aea14eace0852be4b0dcebeaa1c277c61511129fd77ae39c67d4da460211", func := "loop.example/g00225/laws.FnExactDegreeOf", spec := "fnExactDegreeOf", inPlace := ["math/bits.Add64", "math/bits.Sub64"], unfollowed := true, recurses := true, named := ["math/bits.divideError", "math/bits.overflowError"], plainKeys := false, apart := false, narrowed := true }
def FnExactDegreeOfUptoSaid : Prop := fnExactDegreeOfUptoRow.holds Tryz.pinned (OpenSpec.upto fnExactDegreeOfSpec)

/-- 'laws.FnExactAround', WHERE WHAT IT READS IS OF BULK AT MOST 1048576: true; the input reads as it did. -/
def fnExactAroundUptoRow : OpenClaim := { program := "ytaibemhdfhchfaagreat", sum := "c4a7aea14eace0852be4b0dcebeaa1c277c61511129fd77ae39c67d4da460211", func := "loop.example/g00225/laws.FnExactAround", spec := "fnExactAround", inPlace := ["math/bits.Add64", "math/bits.Sub64"], unfollowed := true, recurses := true, named := ["math/bits.divideError", "math/bits.overflowError"], plainKeys := false, apart := false, narrowed := true }
def FnExactAroundUptoSaid : Prop := fnExactAroundUptoRow.holds Tryz.pinned (OpenSpec.upto fnExactAroundSpec)

end Rows
end Go.Proofs.YtaibemhdfhchfaaGreat
