/-
  No cell of these rows narrows 'for every input' (looked for: loops, veiled, ifaces, maps, wideKeys, modest, calm, conditions, laid).
  DERIVED. THE GIVEN ROWS OF THIS SEAT. 12 by the template 'for every input the law returns true; each argument reads behind the call as it read before'; 0 by the template 'total and deterministic' (their statements: YtjbbbkfdcegfmaaGreatTotals.lean).
  GIVEN WITH THE SEED: the statements are not yours to turn. If you find one false, say at which input.
  Laid BY PROGRAM, IN A SANDBOX (cutbox-rows.mjs): the forced cells as the released guide's own fill.sh prints them over the translation 315a2a2aab00ca81… (all of the seat's roots in one cut). By AI agents, Wed Nov 11 2026. No macro, syntax, notation, axiom, sorry.
-/
import Derived.Test.YtjbbbkfdcegfmaaGreatChecked
import GoSem.Claim
import GoSem.ClaimJoined
import GoSem.ClaimMapViews
import Derived.JoinedTies
import Derived.KernelRfl
namespace Go.Proofs.YtjbbbkfdcegfmaaGreat
/- THE CELL 'sum', in the pinned program and in every row, IS THE sha256 OF THE DUMP (.gsa) THAT YtjbbbkfdcegfmaaGreatProg.lean LOADS. Nothing in Lean hashes anything: it is a label: what it is worth is what the hold of that sum in a sandbox is worth. -/
noncomputable def Tryz.pinned : Pinned := { name := "ytjbbbkfdcegfmaagreat", sum := "315a2a2aab00ca81ef007947c8bc63cbb31e969f4fec38d7f26ce1fc2ff7b5ec", checked := Tryz.checked }
namespace Rows
def none {H : Type} : Left H := { results := [], args := [] }

/-- 'laws.FnExactEdgesOn': WHATEVER THE INPUT: true; the input reads as it did. -/
def fnExactEdgesOnSpec : ChangeSpec := { name := "fnExactEdgesOn", fn := fun _ => fun
  | [d1, d2] => { results := [.lit (.bool true)], args := [d1, d2] }
  | _ => none }
def fnExactEdgesOnRow : OpenClaim := { program := "ytjbbbkfdcegfmaagreat", sum := "315a2a2aab00ca81ef007947c8bc63cbb31e969f4fec38d7f26ce1fc2ff7b5ec", func := "loop.example/g00225/laws.FnExactEdgesOn", spec := "fnExactEdgesOn", inPlace := ["math/bits.Add64", "math/bits.Sub64"], unfollowed := true, recurses := true, named := ["math/bits.divideError", "math/bits.overflowError"], plainKeys := false, apart := false }
def FnExactEdgesOnSaid : Prop := fnExactEdgesOnRow.holds Tryz.pinned (OpenSpec.ofChange fnExactEdgesOnSpec)

/-- ITS FALSE NEIGHBOUR: 'it returns false'. Refute it at one input. -/
def fnExactEdgesOnWrong : ChangeSpec := { name := "fnExactEdgesOn", fn := fun _ => fun
  | [d1, d2] => { results := [.lit (.bool false)], args := [d1, d2] }
  | _ => none }
def FnExactEdgesOnWrongFalsely : Prop := fnExactEdgesOnRow.holds Tryz.pinned (OpenSpec.ofChange fnExactEdgesOnWrong)

/-- 'laws.FnExactDegreeOf': WHATEVER THE INPUT: true; the input reads as it did. -/
def fnExactDegreeOfSpec : ChangeSpec := { name := "fnExactDegreeOf", fn := fun _ => fun
  | [d1, d2] => { results := [.lit (.bool true)], args := [d1, d2] }
  | _ => none }
def fnExactDegreeOfRow : OpenClaim := { program := "ytjbbbkfdcegfmaagreat", sum := "315a2a2aab00ca81ef007947c8bc63cbb31e969f4fec38d7f26ce1fc2ff7b5ec", func := "loop.example/g00225/laws.FnExactDegreeOf", spec := "fnExactDegreeOf", inPlace := ["math/bits.Add64", "math/bits.Sub64"], unfollowed := true, recurses := true, named := ["math/bits.divideError", "math/bits.overflowError"], plainKeys := false, apart := false }
def FnExactDegreeOfSaid : Prop := fnExactDegreeOfRow.holds Tryz.pinned (OpenSpec.ofChange fnExactDegreeOfSpec)

/-- ITS FALSE NEIGHBOUR: 'it returns false'. Refute it at one input. -/
def fnExactDegreeOfWrong : ChangeSpec := { name := "fnExactDegreeOf", fn := fun _ => fun
  | [d1, d2] => { results := [.lit (.bool false)], args := [d1, d2] }
  | _ => none }
def FnExactDegreeOfWrongFalsely : Prop := fnExactDegreeOfRow.holds Tryz.pinned (OpenSpec.ofChange fnExactDegreeOfWrong)

/-- 'laws.FnExactAround': WHATEVER THE INPUT: true; the input reads as it did. -/
def fnExactAroundSpec : ChangeSpec := { name := "fnExactAround", fn := fun _ => fun
  | [d1, d2] => { results := [.lit (.bool true)], args := [d1, d2] }
  | _ => none }
def fnExactAroundRow : OpenClaim := { program := "ytjbbbkfdcegfmaagreat", sum := "315a2a2aab00ca81ef007947c8bc63cbb31e969f4fec38d7f26ce1fc2ff7b5ec", func := "loop.example/g00225/laws.FnExactAround", spec := "fnExactAround", inPlace := ["math/bits.Add64", "math/bits.Sub64"], unfollowed := true, recurses := true, named := ["math/bits.divideError", "math/bits.overflowError"], plainKeys := false, apart := false }
def FnExactAroundSaid : Prop := fnExactAroundRow.holds Tryz.pinned (OpenSpec.ofChange fnExactAroundSpec)

/-- ITS FALSE NEIGHBOUR: 'it returns false'. Refute it at one input. -/
def fnExactAroundWrong : ChangeSpec := { name := "fnExactAround", fn := fun _ => fun
  | [d1, d2] => { results := [.lit (.bool false)], args := [d1, d2] }
  | _ => none }
def FnExactAroundWrongFalsely : Prop := fnExactAroundRow.holds Tryz.pinned (OpenSpec.ofChange fnExactAroundWrong)

/-- 'laws.FnExactPiecesOf': WHATEVER THE INPUT: true; the input reads as it did. -/
def fnExactPiecesOfSpec : ChangeSpec := { name := "fnExactPiecesOf", fn := fun _ => fun
  | [d] => { results := [.lit (.bool true)], args := [d] }
  | _ => none }
def fnExactPiecesOfRow : OpenClaim := { program := "ytjbbbkfdcegfmaagreat", sum := "315a2a2aab00ca81ef007947c8bc63cbb31e969f4fec38d7f26ce1fc2ff7b5ec", func := "loop.example/g00225/laws.FnExactPiecesOf", spec := "fnExactPiecesOf", inPlace := ["math/bits.Add64", "math/bits.Sub64"], unfollowed := true, recurses := true, named := ["math/bits.divideError", "math/bits.overflowError"], plainKeys := false, apart := false }
def FnExactPiecesOfSaid : Prop := fnExactPiecesOfRow.holds Tryz.pinned (OpenSpec.ofChange fnExactPiecesOfSpec)

/-- ITS FALSE NEIGHBOUR: 'it returns false'. Refute it at one input. -/
def fnExactPiecesOfWrong : ChangeSpec := { name := "fnExactPiecesOf", fn := fun _ => fun
  | [d] => { results := [.lit (.bool false)], args := [d] }
  | _ => none }
def FnExactPiecesOfWrongFalsely : Prop := fnExactPiecesOfRow.holds Tryz.pinned (OpenSpec.ofChange fnExactPiecesOfWrong)

/-- 'laws.FnExactPlanOf': WHATEVER THE INPUT: true; the input reads as it did. -/
def fnExactPlanOfSpec : ChangeSpec := { name := "fnExactPlanOf", fn := fun _ => fun
  | [d] => { results := [.lit (.bool true)], args := [d] }
  | _ => none }
def fnExactPlanOfRow : OpenClaim := { program := "ytjbbbkfdcegfmaagreat", sum := "315a2a2aab00ca81ef007947c8bc63cbb31e969f4fec38d7f26ce1fc2ff7b5ec", func := "loop.example/g00225/laws.FnExactPlanOf", spec := "fnExactPlanOf", inPlace := ["math/bits.Add64", "math/bits.Sub64"], unfollowed := true, recurses := true, named := ["math/bits.divideError", "math/bits.overflowError"], plainKeys := false, apart := false }
def FnExactPlanOfSaid : Prop := fnExactPlanOfRow.holds Tryz.pinned (OpenSpec.ofChange fnExactPlanOfSpec)

/-- ITS FALSE NEIGHBOUR: 'it returns false'. Refute it at one input. -/
def fnExactPlanOfWrong : ChangeSpec := { name := "fnExactPlanOf", fn := fun _ => fun
  | [d] => { results := [.lit (.bool false)], args := [d] }
  | _ => none }
def FnExactPlanOfWrongFalsely : Prop := fnExactPlanOfRow.holds Tryz.pinned (OpenSpec.ofChange fnExactPlanOfWrong)

/-- 'laws.FnExactTrapsOf': WHATEVER THE INPUT: true; the input reads as it did. -/
def fnExactTrapsOfSpec : ChangeSpec := { name := "fnExactTrapsOf", fn := fun _ => fun
  | [d] => { results := [.lit (.bool true)], args := [d] }
  | _ => none }
def fnExactTrapsOfRow : OpenClaim := { program := "ytjbbbkfdcegfmaagreat", sum := "315a2a2aab00ca81ef007947c8bc63cbb31e969f4fec38d7f26ce1fc2ff7b5ec", func := "loop.example/g00225/laws.FnExactTrapsOf", spec := "fnExactTrapsOf", inPlace := ["math/bits.Add64", "math/bits.Sub64"], unfollowed := true, recurses := true, named := ["math/bits.divideError", "math/bits.overflowError"], plainKeys := false, apart := false }
def FnExactTrapsOfSaid : Prop := fnExactTrapsOfRow.holds Tryz.pinned (OpenSpec.ofChange fnExactTrapsOfSpec)

/-- ITS FALSE NEIGHBOUR: 'it returns false'. Refute it at one input. -/
def fnExactTrapsOfWrong : ChangeSpec := { name := "fnExactTrapsOf", fn := fun _ => fun
  | [d] => { results := [.lit (.bool false)], args := [d] }
  | _ => none }
def FnExactTrapsOfWrongFalsely : Prop := fnExactTrapsOfRow.holds Tryz.pinned (OpenSpec.ofChange fnExactTrapsOfWrong)

/-- 'laws.FnExactFaceOf': WHATEVER THE INPUT: true; the input reads as it did. -/
def fnExactFaceOfSpec : ChangeSpec := { name := "fnExactFaceOf", fn := fun _ => fun
  | [d1, d2] => { results := [.lit (.bool true)], args := [d1, d2] }
  | _ => none }
def fnExactFaceOfRow : OpenClaim := { program := "ytjbbbkfdcegfmaagreat", sum := "315a2a2aab00ca81ef007947c8bc63cbb31e969f4fec38d7f26ce1fc2ff7b5ec", func := "loop.example/g00225/laws.FnExactFaceOf", spec := "fnExactFaceOf", inPlace := ["math/bits.Add64", "math/bits.Sub64"], unfollowed := true, recurses := true, named := ["math/bits.divideError", "math/bits.overflowError"], plainKeys := false, apart := false }
def FnExactFaceOfSaid : Prop := fnExactFaceOfRow.holds Tryz.pinned (OpenSpec.ofChange fnExactFaceOfSpec)

/-- ITS FALSE NEIGHBOUR: 'it returns false'. Refute it at one input. -/
def fnExactFaceOfWrong : ChangeSpec := { name := "fnExactFaceOf", fn := fun _ => fun
  | [d1, d2] => { results := [.lit (.bool false)], args := [d1, d2] }
  | _ => none }
def FnExactFaceOfWrongFalsely : Prop := fnExactFaceOfRow.holds Tryz.pinned (OpenSpec.ofChange fnExactFaceOfWrong)

/-- 'laws.FnExactEuler': WHATEVER THE INPUT: true; the input reads as it did. -/
def fnExactEulerSpec : ChangeSpec := { name := "fnExactEuler", fn := fun _ => fun
  | [d] => { results := [.lit (.bool true)], args := [d] }
  | _ => none }
def fnExactEulerRow : OpenClaim := { program := "ytjbbbkfdcegfmaagreat", sum := "315a2a2aab00ca81ef007947c8bc63cbb31e969f4fec38d7f26ce1fc2ff7b5ec", func := "loop.example/g00225/laws.FnExactEuler", spec := "fnExactEuler", inPlace := ["math/bits.Add64", "math/bits.Sub64"], unfollowed := true, recurses := true, named := ["math/bits.divideError", "math/bits.overflowError"], plainKeys := false, apart := false }
def FnExactEulerSaid : Prop := fnExactEulerRow.holds Tryz.pinned (OpenSpec.ofChange fnExactEulerSpec)

/-- ITS FALSE NEIGHBOUR: 'it returns false'. Refute it at one input. -/
def fnExactEulerWrong : ChangeSpec := { name := "fnExactEuler", fn := fun _ => fun
  | [d] => { results := [.lit (.bool false)], args := [d] }
  | _ => none }
def FnExactEulerWrongFalsely : Prop := fnExactEulerRow.holds Tryz.pinned (OpenSpec.ofChange fnExactEulerWrong)

/-- 'laws.FnExactCycleOf': WHATEVER THE INPUT: true; the input reads as it did. -/
def fnExactCycleOfSpec : ChangeSpec := { name := "fnExactCycleOf", fn := fun _ => fun
  | [d1, d2] => { results := [.lit (.bool true)], args := [d1, d2] }
  | _ => none }
def fnExactCycleOfRow : OpenClaim := { program := "ytjbbbkfdcegfmaagreat", sum := "315a2a2aab00ca81ef007947c8bc63cbb31e969f4fec38d7f26ce1fc2ff7b5ec", func := "loop.example/g00225/laws.FnExactCycleOf", spec := "fnExactCycleOf", inPlace := ["math/bits.Add64", "math/bits.Sub64"], unfollowed := true, recurses := true, named := ["math/bits.divideError", "math/bits.overflowError"], plainKeys := false, apart := false }
def FnExactCycleOfSaid : Prop := fnExactCycleOfRow.holds Tryz.pinned (OpenSpec.ofChange fnExactCycleOfSpec)

/-- ITS FALSE NEIGHBOUR: 'it returns false'. Refute it at one input. -/
def fnExactCycleOfWrong : ChangeSpec := { name := "fnExactCycleOf", fn := fun _ => fun
  | [d1, d2] => { results := [.lit (.bool false)], args := [d1, d2] }
  | _ => none }
def FnExactCycleOfWrongFalsely : Prop := fnExactCycleOfRow.holds Tryz.pinned (OpenSpec.ofChange fnExactCycleOfWrong)

/-- 'laws.FnExactFaceOfTrap': WHATEVER THE INPUT: true; the input reads as it did. -/
def fnExactFaceOfTrapSpec : ChangeSpec := { name := "fnExactFaceOfTrap", fn := fun _ => fun
  | [d1, d2] => { results := [.lit (.bool true)], args := [d1, d2] }
  | _ => none }
def fnExactFaceOfTrapRow : OpenClaim := { program := "ytjbbbkfdcegfmaagreat", sum := "315a2a2aab00ca81ef007947c8bc63cbb31e969f4fec38d7f26ce1fc2ff7b5ec", func := "loop.example/g00225/laws.FnExactFaceOfTrap", spec := "fnExactFaceOfTrap", inPlace := ["math/bits.Add64", "math/bits.Sub64"], unfollowed := true, recurses := true, named := ["math/bits.divideError", "math/bits.overflowError"], plainKeys := false, apart := false }
def FnExactFaceOfTrapSaid : Prop := fnExactFaceOfTrapRow.holds Tryz.pinned (OpenSpec.ofChange fnExactFaceOfTrapSpec)

/-- ITS FALSE NEIGHBOUR: 'it returns false'. Refute it at one input. -/
def fnExactFaceOfTrapWrong : ChangeSpec := { name := "fnExactFaceOfTrap", fn := fun _ => fun
  | [d1, d2] => { results := [.lit (.bool false)], args := [d1, d2] }
  | _ => none }
def FnExactFaceOfTrapWrongFalsely : Prop := fnExactFaceOfTrapRow.holds Tryz.pinned (OpenSpec.ofChange fnExactFaceOfTrapWrong)

/-- 'laws.FnExactCellAt': WHATEVER THE INPUT: true; the input reads as it did. -/
def fnExactCellAtSpec : ChangeSpec := { name := "fnExactCellAt", fn := fun _ => fun
  | [d1, d2] => { results := [.lit (.bool true)], args := [d1, d2] }
  | _ => none }
def fnExactCellAtRow : OpenClaim := { program := "ytjbbbkfdcegfmaagreat", sum := "315a2a2aab00ca81ef007947c8bc63cbb31e969f4fec38d7f26ce1fc2ff7b5ec", func := "loop.example/g00225/laws.FnExactCellAt", spec := "fnExactCellAt", inPlace := ["math/bits.Add64", "math/bits.Sub64"], unfollowed := true, recurses := true, named := ["math/bits.divideError", "math/bits.overflowError"], plainKeys := false, apart := false }
def FnExactCellAtSaid : Prop := fnExactCellAtRow.holds Tryz.pinned (OpenSpec.ofChange fnExactCellAtSpec)

/-- ITS FALSE NEIGHBOUR: 'it returns false'. Refute it at one input. -/
def fnExactCellAtWrong : ChangeSpec := { name := "fnExactCellAt", fn := fun _ => fun
  | [d1, d2] => { results := [.lit (.bool false)], args := [d1, d2] }
  | _ => none }
def FnExactCellAtWrongFalsely : Prop := fnExactCellAtRow.holds Tryz.pinned (OpenSpec.ofChange fnExactCellAtWrong)

/-- 'laws.FnExactDcelOf': WHATEVER THE INPUT: true; the input reads as it did. -/
def fnExactDcelOfSpec : ChangeSpec := { name := "fnExactDcelOf", fn := fun _ => fun
  | [d] => { results := [.lit (.bool true)], args := [d] }
  | _ => none }
def fnExactDcelOfRow : OpenClaim := { program := "ytjbbbkfdcegfmaagreat", sum := "315a2a2aab00ca81ef007947c8bc63cbb31e969f4fec38d7f26ce1fc2ff7b5ec", func := "loop.example/g00225/laws.FnExactDcelOf", spec := "fnExactDcelOf", inPlace := ["math/bits.Add64", "math/bits.Sub64"], unfollowed := true, recurses := true, named := ["math/bits.divideError", "math/bits.overflowError"], plainKeys := false, apart := false }
def FnExactDcelOfSaid : Prop := fnExactDcelOfRow.holds Tryz.pinned (OpenSpec.ofChange fnExactDcelOfSpec)

/-- ITS FALSE NEIGHBOUR: 'it returns false'. Refute it at one input. -/
def fnExactDcelOfWrong : ChangeSpec := { name := "fnExactDcelOf", fn := fun _ => fun
  | [d] => { results := [.lit (.bool false)], args := [d] }
  | _ => none }
def FnExactDcelOfWrongFalsely : Prop := fnExactDcelOfRow.holds Tryz.pinned (OpenSpec.ofChange fnExactDcelOfWrong)

/- THE SECOND FORM. 'bulk': how many values and letters a reading holds, each counted each time it is reached (what is shared counts as often as it is met; a slice's spare places count too). A statement '..UptoSaid' is the law's where the arguments, and the package variables that the reading takes, are together of bulk at most 1048576: NARROWER than '..Said'. Prove '..Said' where nothing that the law and all that it calls make is longer than what came in: it says more and counts as full. Else prove '..UptoSaid'. A law counts once. -/
mutual
def uptoBulk {H : Type} : DataW H → Nat
  | .lit (.string bytes) => bytes.length + 1
  | .lit _ => 1
  | .nil => 1
  | .ptr d => uptoBulk d + 1
  | .slice elems spare => uptoBulkAll elems + uptoBulkAll spare + 1
  | .agg parts => uptoBulkAll parts + 1
  | .iface _ d => uptoBulk d + 1
  | .map entries => uptoBulkEntries entries + 1
  | .held _ => 1
def uptoBulkAll {H : Type} : List (DataW H) → Nat
  | [] => 0
  | d :: r => uptoBulk d + uptoBulkAll r
def uptoBulkEntries {H : Type} : List (Lit × DataW H) → Nat
  | [] => 0
  | x :: r => uptoBulkEntry x + uptoBulkEntries r
def uptoBulkEntry {H : Type} : Lit × DataW H → Nat
  | (.string bytes, d) => bytes.length + uptoBulk d + 1
  | (_, d) => uptoBulk d + 1
 end
def uptoSmall : (H : Type) → List (DataW H) → Bool := fun _ ds => decide (uptoBulkAll ds ≤ 1048576)
def OpenSpec.upto (s : _root_.Go.ChangeSpec) : _root_.Go.OpenSpec := { _root_.Go.OpenSpec.ofChange s with cond := some uptoSmall }

/-- 'laws.FnExactEdgesOn', WHERE WHAT IT READS IS OF BULK AT MOST 1048576: true; the input reads as it did. -/
def fnExactEdgesOnUptoRow : OpenClaim := { program := "ytjbbbkfdcegfmaagreat", sum := "315a2a2aab00ca81ef007947c8bc63cbb31e969f4fec38d7f26ce1fc2ff7b5ec", func := "loop.example/g00225/laws.FnExactEdgesOn", spec := "fnExactEdgesOn", inPlace := ["math/bits.Add64", "math/bits.Sub64"], unfollowed := true, recurses := true, named := ["math/bits.divideError", "math/bits.overflowError"], plainKeys := false, apart := false, narrowed := true }
def FnExactEdgesOnUptoSaid : Prop := fnExactEdgesOnUptoRow.holds Tryz.pinned (OpenSpec.upto fnExactEdgesOnSpec)

/-- 'laws.FnExactDegreeOf', WHERE WHAT IT READS IS OF BULK AT MOST 1048576: true; the input reads as it did. -/
def fnExactDegreeOfUptoRow : OpenClaim := { program := "ytjbbbkfdcegfmaagreat", sum := "315a2a2aab00ca81ef007947c8bc63cbb31e969f4fec38d7f26ce1fc2ff7b5ec", func := "loop.example/g00225/laws.FnExactDegreeOf", spec := "fnExactDegreeOf", inPlace := ["math/bits.Add64", "math/bits.Sub64"], unfollowed := true, recurses := true, named := ["math/bits.divideError", "math/bits.overflowError"], plainKeys := false, apart := false, narrowed := true }
def FnExactDegreeOfUptoSaid : Prop := fnExactDegreeOfUptoRow.holds Tryz.pinned (OpenSpec.upto fnExactDegreeOfSpec)

/-- 'laws.FnExactAround', WHERE WHAT IT READS IS OF BULK AT MOST 1048576: true; the input reads as it did. -/
def fnExactAroundUptoRow : OpenClaim := { program := "ytjbbbkfdcegfmaagreat", sum := "315a2a2aab00ca81ef007947c8bc63cbb31e969f4fec38d7f26ce1fc2ff7b5ec", func := "loop.example/g00225/laws.FnExactAround", spec := "fnExactAround", inPlace := ["math/bits.Add64", "math/bits.Sub64"], unfollowed := true, recurses := true, named := ["math/bits.divideError", "math/bits.overflowError"], plainKeys := false, apart := false, narrowed := true }
def FnExactAroundUptoSaid : Prop := fnExactAroundUptoRow.holds Tryz.pinned (OpenSpec.upto fnExactAroundSpec)

/-- 'laws.FnExactPiecesOf', WHERE WHAT IT READS IS OF BULK AT MOST 1048576: true; the input reads as it did. -/
def fnExactPiecesOfUptoRow : OpenClaim := { program := "ytjbbbkfdcegfmaagreat", sum := "315a2a2aab00ca81ef007947c8bc63cbb31e969f4fec38d7f26ce1fc2ff7b5ec", func := "loop.example/g00225/laws.FnExactPiecesOf", spec := "fnExactPiecesOf", inPlace := ["math/bits.Add64", "math/bits.Sub64"], unfollowed := true, recurses := true, named := ["math/bits.divideError", "math/bits.overflowError"], plainKeys := false, apart := false, narrowed := true }
def FnExactPiecesOfUptoSaid : Prop := fnExactPiecesOfUptoRow.holds Tryz.pinned (OpenSpec.upto fnExactPiecesOfSpec)

/-- 'laws.FnExactPlanOf', WHERE WHAT IT READS IS OF BULK AT MOST 1048576: true; the input reads as it did. -/
def fnExactPlanOfUptoRow : OpenClaim := { program := "ytjbbbkfdcegfmaagreat", sum := "315a2a2aab00ca81ef007947c8bc63cbb31e969f4fec38d7f26ce1fc2ff7b5ec", func := "loop.example/g00225/laws.FnExactPlanOf", spec := "fnExactPlanOf", inPlace := ["math/bits.Add64", "math/bits.Sub64"], unfollowed := true, recurses := true, named := ["math/bits.divideError", "math/bits.overflowError"], plainKeys := false, apart := false, narrowed := true }
def FnExactPlanOfUptoSaid : Prop := fnExactPlanOfUptoRow.holds Tryz.pinned (OpenSpec.upto fnExactPlanOfSpec)

/-- 'laws.FnExactTrapsOf', WHERE WHAT IT READS IS OF BULK AT MOST 1048576: true; the input reads as it did. -/
def fnExactTrapsOfUptoRow : OpenClaim := { program := "ytjbbbkfdcegfmaagreat", sum := "315a2a2aab00ca81ef007947c8bc63cbb31e969f4fec38d7f26ce1fc2ff7b5ec", func := "loop.example/g00225/laws.FnExactTrapsOf", spec := "fnExactTrapsOf", inPlace := ["math/bits.Add64", "math/bits.Sub64"], unfollowed := true, recurses := true, named := ["math/bits.divideError", "math/bits.overflowError"], plainKeys := false, apart := false, narrowed := true }
def FnExactTrapsOfUptoSaid : Prop := fnExactTrapsOfUptoRow.holds Tryz.pinned (OpenSpec.upto fnExactTrapsOfSpec)

/-- 'laws.FnExactFaceOf', WHERE WHAT IT READS IS OF BULK AT MOST 1048576: true; the input reads as it did. -/
def fnExactFaceOfUptoRow : OpenClaim := { program := "ytjbbbkfdcegfmaagreat", sum := "315a2a2aab00ca81ef007947c8bc63cbb31e969f4fec38d7f26ce1fc2ff7b5ec", func := "loop.example/g00225/laws.FnExactFaceOf", spec := "fnExactFaceOf", inPlace := ["math/bits.Add64", "math/bits.Sub64"], unfollowed := true, recurses := true, named := ["math/bits.divideError", "math/bits.overflowError"], plainKeys := false, apart := false, narrowed := true }
def FnExactFaceOfUptoSaid : Prop := fnExactFaceOfUptoRow.holds Tryz.pinned (OpenSpec.upto fnExactFaceOfSpec)

/-- 'laws.FnExactEuler', WHERE WHAT IT READS IS OF BULK AT MOST 1048576: true; the input reads as it did. -/
def fnExactEulerUptoRow : OpenClaim := { program := "ytjbbbkfdcegfmaagreat", sum := "315a2a2aab00ca81ef007947c8bc63cbb31e969f4fec38d7f26ce1fc2ff7b5ec", func := "loop.example/g00225/laws.FnExactEuler", spec := "fnExactEuler", inPlace := ["math/bits.Add64", "math/bits.Sub64"], unfollowed := true, recurses := true, named := ["math/bits.divideError", "math/bits.overflowError"], plainKeys := false, apart := false, narrowed := true }
def FnExactEulerUptoSaid : Prop := fnExactEulerUptoRow.holds Tryz.pinned (OpenSpec.upto fnExactEulerSpec)

/-- 'laws.FnExactCycleOf', WHERE WHAT IT READS IS OF BULK AT MOST 1048576: true; the input reads as it did. -/
def fnExactCycleOfUptoRow : OpenClaim := { program := "ytjbbbkfdcegfmaagreat", sum := "315a2a2aab00ca81ef007947c8bc63cbb31e969f4fec38d7f26ce1fc2ff7b5ec", func := "loop.example/g00225/laws.FnExactCycleOf", spec := "fnExactCycleOf", inPlace := ["math/bits.Add64", "math/bits.Sub64"], unfollowed := true, recurses := true, named := ["math/bits.divideError", "math/bits.overflowError"], plainKeys := false, apart := false, narrowed := true }
def FnExactCycleOfUptoSaid : Prop := fnExactCycleOfUptoRow.holds Tryz.pinned (OpenSpec.upto fnExactCycleOfSpec)

/-- 'laws.FnExactFaceOfTrap', WHERE WHAT IT READS IS OF BULK AT MOST 1048576: true; the input reads as it did. -/
def fnExactFaceOfTrapUptoRow : OpenClaim := { program := "ytjbbbkfdcegfmaagreat", sum := "315a2a2aab00ca81ef007947c8bc63cbb31e969f4fec38d7f26ce1fc2ff7b5ec", func := "loop.example/g00225/laws.FnExactFaceOfTrap", spec := "fnExactFaceOfTrap", inPlace := ["math/bits.Add64", "math/bits.Sub64"], unfollowed := true, recurses := true, named := ["math/bits.divideError", "math/bits.overflowError"], plainKeys := false, apart := false, narrowed := true }
def FnExactFaceOfTrapUptoSaid : Prop := fnExactFaceOfTrapUptoRow.holds Tryz.pinned (OpenSpec.upto fnExactFaceOfTrapSpec)

/-- 'laws.FnExactCellAt', WHERE WHAT IT READS IS OF BULK AT MOST 1048576: true; the input reads as it did. -/
def fnExactCellAtUptoRow : OpenClaim := { program := "ytjbbbkfdcegfmaagreat", sum := "315a2a2aab00ca81ef007947c8bc63cbb31e969f4fec38d7f26ce1fc2ff7b5ec", func := "loop.example/g00225/laws.FnExactCellAt", spec := "fnExactCellAt", inPlace := ["math/bits.Add64", "math/bits.Sub64"], unfollowed := true, recurses := true, named := ["math/bits.divideError", "math/bits.overflowError"], plainKeys := false, apart := false, narrowed := true }
def FnExactCellAtUptoSaid : Prop := fnExactCellAtUptoRow.holds Tryz.pinned (OpenSpec.upto fnExactCellAtSpec)

/-- 'laws.FnExactDcelOf', WHERE WHAT IT READS IS OF BULK AT MOST 1048576: true; the input reads as it did. -/
def fnExactDcelOfUptoRow : OpenClaim := { program := "ytjbbbkfdcegfmaagreat", sum := "315a2a2aab00ca81ef007947c8bc63cbb31e969f4fec38d7f26ce1fc2ff7b5ec", func := "loop.example/g00225/laws.FnExactDcelOf", spec := "fnExactDcelOf", inPlace := ["math/bits.Add64", "math/bits.Sub64"], unfollowed := true, recurses := true, named := ["math/bits.divideError", "math/bits.overflowError"], plainKeys := false, apart := false, narrowed := true }
def FnExactDcelOfUptoSaid : Prop := fnExactDcelOfUptoRow.holds Tryz.pinned (OpenSpec.upto fnExactDcelOfSpec)

end Rows
end Go.Proofs.YtjbbbkfdcegfmaaGreat
