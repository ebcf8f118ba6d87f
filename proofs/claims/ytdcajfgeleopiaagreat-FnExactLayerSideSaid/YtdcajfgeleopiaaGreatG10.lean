/- What is known of this seat's types and functions. -/
import Derived.Test.YtdcajfgeleopiaaGreatG0Z
import Derived.Test.YtdcajfgeleopiaaGreatChecked
import Derived.KernelRfl

namespace Go.Proofs.YtdcajfgeleopiaaGreat
open Go Go.RowKit
theorem dc : (∀ (p : Prop) [Decidable p], (decide p = true) = p) ∧ ∀ (p : Prop) [Decidable p], (decide p = false) = ¬ p := by simp
theorem ln : (∀ (α : Type) (a b : List α), (a ++ b).length = a.length + b.length) ∧ (∀ (α : Type) (x : α) (l : List α), (x :: l).length = l.length + 1) ∧ (∀ (α : Type), ([] : List α).length = 0) ∧ (∀ (α : Type) (l : List α) (i : Nat) (x : α), (l.set i x).length = l.length) ∧ (∀ (α : Type) (n : Nat) (x : α), (List.replicate n x).length = n) ∧ (∀ n : Nat, (n : Int).toNat = n) := by simp
theorem szT2 : szOf Tryz.prog 2 = some 1 := by kernel_rfl
theorem byT2 : byOf Tryz.prog 2 = some 8 := by kernel_rfl
theorem agT2 : aggT Tryz.prog 2 = some false := by kernel_rfl
theorem unT2 : Tryz.prog.underlying 2 = some (.int .i64) := Tryz.underlying2
theorem zoT2 : zOf Tryz.prog 2 = some [.int .i64 0] := by kernel_rfl
theorem szT3 : szOf Tryz.prog 3 = some 1 := by kernel_rfl
theorem byT3 : byOf Tryz.prog 3 = some 8 := by kernel_rfl
theorem agT3 : aggT Tryz.prog 3 = some false := by kernel_rfl
theorem unT3 : Tryz.prog.underlying 3 = some (.int .i64) := Tryz.underlying3
theorem zoT3 : zOf Tryz.prog 3 = some [.int .i64 0] := by kernel_rfl
theorem szT4 : szOf Tryz.prog 4 = some 1 := by kernel_rfl
theorem byT4 : byOf Tryz.prog 4 = some 1 := by kernel_rfl
theorem agT4 : aggT Tryz.prog 4 = some false := by kernel_rfl
theorem unT4 : Tryz.prog.underlying 4 = some .bool := Tryz.underlying4
theorem zoT4 : zOf Tryz.prog 4 = some [.bool false] := by kernel_rfl
theorem szT5 : szOf Tryz.prog 5 = some 1 := by kernel_rfl
theorem byT5 : byOf Tryz.prog 5 = some 1 := by kernel_rfl
theorem agT5 : aggT Tryz.prog 5 = some false := by kernel_rfl
theorem unT5 : Tryz.prog.underlying 5 = some (.int .u8) := Tryz.underlying5
theorem zoT5 : zOf Tryz.prog 5 = some [.int .u8 0] := by kernel_rfl
theorem szT6 : szOf Tryz.prog 6 = some 1 := by kernel_rfl
theorem byT6 : byOf Tryz.prog 6 = some 1 := by kernel_rfl
theorem agT6 : aggT Tryz.prog 6 = some false := by kernel_rfl
theorem unT6 : Tryz.prog.underlying 6 = some (.int .u8) := Tryz.underlying6
theorem zoT6 : zOf Tryz.prog 6 = some [.int .u8 0] := by kernel_rfl
theorem szT7 : szOf Tryz.prog 7 = some 4 := by kernel_rfl
theorem byT7 : byOf Tryz.prog 7 = some 24 := by kernel_rfl
theorem agT7 : aggT Tryz.prog 7 = some true := by kernel_rfl
theorem flT7 : fldsOk Tryz.prog 7 = true := by kernel_rfl
theorem fdT7_0 : fldOf Tryz.prog 7 0 = some (0, 1, 2) := by kernel_rfl
theorem fdT7_1 : fldOf Tryz.prog 7 1 = some (1, 1, 3) := by kernel_rfl
theorem fdT7_2 : fldOf Tryz.prog 7 2 = some (2, 1, 4) := by kernel_rfl
theorem fdT7_3 : fldOf Tryz.prog 7 3 = some (3, 1, 6) := by kernel_rfl
theorem zoT7 : zOf Tryz.prog 7 = some [.int .i64 0, .int .i64 0, .bool false, .int .u8 0] := by kernel_rfl
theorem szT8 : szOf Tryz.prog 8 = some 4 := by kernel_rfl
theorem byT8 : byOf Tryz.prog 8 = some 24 := by kernel_rfl
theorem agT8 : aggT Tryz.prog 8 = some true := by kernel_rfl
theorem flT8 : fldsOk Tryz.prog 8 = true := by kernel_rfl
theorem fdT8_0 : fldOf Tryz.prog 8 0 = some (0, 1, 2) := by kernel_rfl
theorem fdT8_1 : fldOf Tryz.prog 8 1 = some (1, 1, 3) := by kernel_rfl
theorem fdT8_2 : fldOf Tryz.prog 8 2 = some (2, 1, 4) := by kernel_rfl
theorem fdT8_3 : fldOf Tryz.prog 8 3 = some (3, 1, 6) := by kernel_rfl
theorem zoT8 : zOf Tryz.prog 8 = some [.int .i64 0, .int .i64 0, .bool false, .int .u8 0] := by kernel_rfl
theorem szT9 : szOf Tryz.prog 9 = some 1 := by kernel_rfl
theorem byT9 : byOf Tryz.prog 9 = some 16 := by kernel_rfl
theorem agT9 : aggT Tryz.prog 9 = some false := by kernel_rfl
theorem stT9 : strT Tryz.prog 9 = true := by kernel_rfl
theorem zoT9 : zOf Tryz.prog 9 = some [.str ⟨#[]⟩] := by kernel_rfl
theorem szT10 : szOf Tryz.prog 10 = some 1 := by kernel_rfl
theorem byT10 : byOf Tryz.prog 10 = some 16 := by kernel_rfl
theorem agT10 : aggT Tryz.prog 10 = some false := by kernel_rfl
theorem stT10 : strT Tryz.prog 10 = true := by kernel_rfl
theorem zoT10 : zOf Tryz.prog 10 = some [.str ⟨#[]⟩] := by kernel_rfl
theorem szT11 : szOf Tryz.prog 11 = some 1 := by kernel_rfl
theorem byT11 : byOf Tryz.prog 11 = some 16 := by kernel_rfl
theorem agT11 : aggT Tryz.prog 11 = some false := by kernel_rfl
theorem stT11 : strT Tryz.prog 11 = true := by kernel_rfl
theorem zoT11 : zOf Tryz.prog 11 = some [.str ⟨#[]⟩] := by kernel_rfl
theorem szT12 : szOf Tryz.prog 12 = some 1 := by kernel_rfl
theorem byT12 : byOf Tryz.prog 12 = some 8 := by kernel_rfl
theorem agT12 : aggT Tryz.prog 12 = some false := by kernel_rfl
theorem unT12 : Tryz.prog.underlying 12 = some (.int .u64) := Tryz.underlying12
theorem zoT12 : zOf Tryz.prog 12 = some [.int .u64 0] := by kernel_rfl
theorem szT13 : szOf Tryz.prog 13 = some 2 := by kernel_rfl
theorem byT13 : byOf Tryz.prog 13 = some 24 := by kernel_rfl
theorem agT13 : aggT Tryz.prog 13 = some true := by kernel_rfl
theorem flT13 : fldsOk Tryz.prog 13 = true := by kernel_rfl
theorem fdT13_0 : fldOf Tryz.prog 13 0 = some (0, 1, 9) := by kernel_rfl
theorem fdT13_1 : fldOf Tryz.prog 13 1 = some (1, 1, 12) := by kernel_rfl
theorem zoT13 : zOf Tryz.prog 13 = some [.str ⟨#[]⟩, .int .u64 0] := by kernel_rfl
theorem szT14 : szOf Tryz.prog 14 = some 2 := by kernel_rfl
theorem byT14 : byOf Tryz.prog 14 = some 24 := by kernel_rfl
theorem agT14 : aggT Tryz.prog 14 = some true := by kernel_rfl
theorem flT14 : fldsOk Tryz.prog 14 = true := by kernel_rfl
theorem fdT14_0 : fldOf Tryz.prog 14 0 = some (0, 1, 9) := by kernel_rfl
theorem fdT14_1 : fldOf Tryz.prog 14 1 = some (1, 1, 12) := by kernel_rfl
theorem zoT14 : zOf Tryz.prog 14 = some [.str ⟨#[]⟩, .int .u64 0] := by kernel_rfl
theorem szT15 : szOf Tryz.prog 15 = some 1 := by kernel_rfl
theorem byT15 : byOf Tryz.prog 15 = some 8 := by kernel_rfl
theorem agT15 : aggT Tryz.prog 15 = some false := by kernel_rfl
theorem unT15 : Tryz.prog.underlying 15 = some (.pointer 208) := Tryz.underlying15
theorem zoT15 : zOf Tryz.prog 15 = some [.nil] := by kernel_rfl
theorem szT16 : szOf Tryz.prog 16 = some 1 := by kernel_rfl
theorem byT16 : byOf Tryz.prog 16 = some 8 := by kernel_rfl
theorem agT16 : aggT Tryz.prog 16 = some false := by kernel_rfl
theorem unT16 : Tryz.prog.underlying 16 = some (.pointer 211) := Tryz.underlying16
theorem zoT16 : zOf Tryz.prog 16 = some [.nil] := by kernel_rfl
theorem szT17 : szOf Tryz.prog 17 = some 1 := by kernel_rfl
theorem byT17 : byOf Tryz.prog 17 = some 8 := by kernel_rfl
theorem agT17 : aggT Tryz.prog 17 = some false := by kernel_rfl
theorem unT17 : Tryz.prog.underlying 17 = some (.pointer 219) := Tryz.underlying17
theorem zoT17 : zOf Tryz.prog 17 = some [.nil] := by kernel_rfl
theorem szT18 : szOf Tryz.prog 18 = some 1 := by kernel_rfl
theorem byT18 : byOf Tryz.prog 18 = some 8 := by kernel_rfl
theorem agT18 : aggT Tryz.prog 18 = some true := by kernel_rfl
theorem flT18 : fldsOk Tryz.prog 18 = true := by kernel_rfl
theorem fdT18_0 : fldOf Tryz.prog 18 0 = some (0, 1, 17) := by kernel_rfl
theorem zoT18 : zOf Tryz.prog 18 = some [.nil] := by kernel_rfl
theorem szT19 : szOf Tryz.prog 19 = some 1 := by kernel_rfl
theorem byT19 : byOf Tryz.prog 19 = some 8 := by kernel_rfl
theorem agT19 : aggT Tryz.prog 19 = some true := by kernel_rfl
theorem flT19 : fldsOk Tryz.prog 19 = true := by kernel_rfl
theorem fdT19_0 : fldOf Tryz.prog 19 0 = some (0, 1, 17) := by kernel_rfl
theorem zoT19 : zOf Tryz.prog 19 = some [.nil] := by kernel_rfl
theorem szT21 : szOf Tryz.prog 21 = some 1 := by kernel_rfl
theorem byT21 : byOf Tryz.prog 21 = some 4 := by kernel_rfl
theorem agT21 : aggT Tryz.prog 21 = some false := by kernel_rfl
theorem unT21 : Tryz.prog.underlying 21 = some (.int .i32) := Tryz.underlying21
theorem zoT21 : zOf Tryz.prog 21 = some [.int .i32 0] := by kernel_rfl
theorem szT22 : szOf Tryz.prog 22 = some 1 := by kernel_rfl
theorem byT22 : byOf Tryz.prog 22 = some 24 := by kernel_rfl
theorem agT22 : aggT Tryz.prog 22 = some false := by kernel_rfl
theorem elT22 : elOf Tryz.prog 22 = some 123 := by kernel_rfl
theorem unT22 : Tryz.prog.underlying 22 = some (.slice 123) := Tryz.underlying22
theorem zoT22 : zOf Tryz.prog 22 = some [.nsl] := by kernel_rfl
theorem szT23 : szOf Tryz.prog 23 = some 1 := by kernel_rfl
theorem byT23 : byOf Tryz.prog 23 = some 24 := by kernel_rfl
theorem agT23 : aggT Tryz.prog 23 = some true := by kernel_rfl
theorem flT23 : fldsOk Tryz.prog 23 = true := by kernel_rfl
theorem fdT23_0 : fldOf Tryz.prog 23 0 = some (0, 1, 22) := by kernel_rfl
theorem zoT23 : zOf Tryz.prog 23 = some [.nsl] := by kernel_rfl
theorem szT24 : szOf Tryz.prog 24 = some 1 := by kernel_rfl
theorem byT24 : byOf Tryz.prog 24 = some 24 := by kernel_rfl
theorem agT24 : aggT Tryz.prog 24 = some true := by kernel_rfl
theorem flT24 : fldsOk Tryz.prog 24 = true := by kernel_rfl
theorem fdT24_0 : fldOf Tryz.prog 24 0 = some (0, 1, 22) := by kernel_rfl
theorem zoT24 : zOf Tryz.prog 24 = some [.nsl] := by kernel_rfl
theorem szT25 : szOf Tryz.prog 25 = some 1 := by kernel_rfl
theorem byT25 : byOf Tryz.prog 25 = some 8 := by kernel_rfl
theorem agT25 : aggT Tryz.prog 25 = some false := by kernel_rfl
theorem unT25 : Tryz.prog.underlying 25 = some (.int .u64) := Tryz.underlying25
theorem zoT25 : zOf Tryz.prog 25 = some [.int .u64 0] := by kernel_rfl
theorem szT26 : szOf Tryz.prog 26 = some 4 := by kernel_rfl
theorem byT26 : byOf Tryz.prog 26 = some 32 := by kernel_rfl
theorem agT26 : aggT Tryz.prog 26 = some true := by kernel_rfl
theorem flT26 : fldsOk Tryz.prog 26 = true := by kernel_rfl
theorem fdT26_0 : fldOf Tryz.prog 26 0 = some (0, 1, 25) := by kernel_rfl
theorem fdT26_1 : fldOf Tryz.prog 26 1 = some (1, 1, 25) := by kernel_rfl
theorem fdT26_2 : fldOf Tryz.prog 26 2 = some (2, 1, 25) := by kernel_rfl
theorem fdT26_3 : fldOf Tryz.prog 26 3 = some (3, 1, 25) := by kernel_rfl
theorem zoT26 : zOf Tryz.prog 26 = some [.int .u64 0, .int .u64 0, .int .u64 0, .int .u64 0] := by kernel_rfl
theorem szT27 : szOf Tryz.prog 27 = some 4 := by kernel_rfl
theorem byT27 : byOf Tryz.prog 27 = some 32 := by kernel_rfl
theorem agT27 : aggT Tryz.prog 27 = some true := by kernel_rfl
theorem flT27 : fldsOk Tryz.prog 27 = true := by kernel_rfl
theorem fdT27_0 : fldOf Tryz.prog 27 0 = some (0, 1, 25) := by kernel_rfl
theorem fdT27_1 : fldOf Tryz.prog 27 1 = some (1, 1, 25) := by kernel_rfl
theorem fdT27_2 : fldOf Tryz.prog 27 2 = some (2, 1, 25) := by kernel_rfl
theorem fdT27_3 : fldOf Tryz.prog 27 3 = some (3, 1, 25) := by kernel_rfl
theorem zoT27 : zOf Tryz.prog 27 = some [.int .u64 0, .int .u64 0, .int .u64 0, .int .u64 0] := by kernel_rfl
theorem szT28 : szOf Tryz.prog 28 = some 12 := by kernel_rfl
theorem byT28 : byOf Tryz.prog 28 = some 96 := by kernel_rfl
theorem agT28 : aggT Tryz.prog 28 = some true := by kernel_rfl
theorem flT28 : fldsOk Tryz.prog 28 = true := by kernel_rfl
theorem fdT28_0 : fldOf Tryz.prog 28 0 = some (0, 4, 27) := by kernel_rfl
theorem fdT28_1 : fldOf Tryz.prog 28 1 = some (4, 4, 27) := by kernel_rfl
theorem fdT28_2 : fldOf Tryz.prog 28 2 = some (8, 4, 27) := by kernel_rfl
theorem zoT28 : zOf Tryz.prog 28 = some [.int .u64 0, .int .u64 0, .int .u64 0, .int .u64 0, .int .u64 0, .int .u64 0, .int .u64 0, .int .u64 0, .int .u64 0, .int .u64 0, .int .u64 0, .int .u64 0] := by kernel_rfl
theorem szT29 : szOf Tryz.prog 29 = some 12 := by kernel_rfl
theorem byT29 : byOf Tryz.prog 29 = some 96 := by kernel_rfl
theorem agT29 : aggT Tryz.prog 29 = some true := by kernel_rfl
theorem flT29 : fldsOk Tryz.prog 29 = true := by kernel_rfl
theorem fdT29_0 : fldOf Tryz.prog 29 0 = some (0, 4, 27) := by kernel_rfl
theorem fdT29_1 : fldOf Tryz.prog 29 1 = some (4, 4, 27) := by kernel_rfl
theorem fdT29_2 : fldOf Tryz.prog 29 2 = some (8, 4, 27) := by kernel_rfl
theorem zoT29 : zOf Tryz.prog 29 = some [.int .u64 0, .int .u64 0, .int .u64 0, .int .u64 0, .int .u64 0, .int .u64 0, .int .u64 0, .int .u64 0, .int .u64 0, .int .u64 0, .int .u64 0, .int .u64 0] := by kernel_rfl
theorem szT32 : szOf Tryz.prog 32 = some 1 := by kernel_rfl
theorem byT32 : byOf Tryz.prog 32 = some 24 := by kernel_rfl
theorem agT32 : aggT Tryz.prog 32 = some false := by kernel_rfl
theorem elT32 : elOf Tryz.prog 32 = some 53 := by kernel_rfl
theorem unT32 : Tryz.prog.underlying 32 = some (.slice 53) := Tryz.underlying32
theorem zoT32 : zOf Tryz.prog 32 = some [.nsl] := by kernel_rfl
theorem szT33 : szOf Tryz.prog 33 = some 1 := by kernel_rfl
theorem byT33 : byOf Tryz.prog 33 = some 24 := by kernel_rfl
theorem agT33 : aggT Tryz.prog 33 = some true := by kernel_rfl
theorem flT33 : fldsOk Tryz.prog 33 = true := by kernel_rfl
theorem fdT33_0 : fldOf Tryz.prog 33 0 = some (0, 1, 32) := by kernel_rfl
theorem zoT33 : zOf Tryz.prog 33 = some [.nsl] := by kernel_rfl
theorem szT34 : szOf Tryz.prog 34 = some 1 := by kernel_rfl
theorem byT34 : byOf Tryz.prog 34 = some 24 := by kernel_rfl
theorem agT34 : aggT Tryz.prog 34 = some true := by kernel_rfl
theorem flT34 : fldsOk Tryz.prog 34 = true := by kernel_rfl
theorem fdT34_0 : fldOf Tryz.prog 34 0 = some (0, 1, 32) := by kernel_rfl
theorem zoT34 : zOf Tryz.prog 34 = some [.nsl] := by kernel_rfl
theorem szT36 : szOf Tryz.prog 36 = some 4 := by kernel_rfl
theorem byT36 : byOf Tryz.prog 36 = some 32 := by kernel_rfl
theorem agT36 : aggT Tryz.prog 36 = some true := by kernel_rfl
theorem flT36 : fldsOk Tryz.prog 36 = true := by kernel_rfl
theorem fdT36_0 : fldOf Tryz.prog 36 0 = some (0, 1, 25) := by kernel_rfl
theorem fdT36_1 : fldOf Tryz.prog 36 1 = some (1, 1, 25) := by kernel_rfl
theorem fdT36_2 : fldOf Tryz.prog 36 2 = some (2, 1, 25) := by kernel_rfl
theorem fdT36_3 : fldOf Tryz.prog 36 3 = some (3, 1, 25) := by kernel_rfl
theorem zoT36 : zOf Tryz.prog 36 = some [.int .u64 0, .int .u64 0, .int .u64 0, .int .u64 0] := by kernel_rfl
theorem szT37 : szOf Tryz.prog 37 = some 12 := by kernel_rfl
theorem byT37 : byOf Tryz.prog 37 = some 96 := by kernel_rfl
theorem agT37 : aggT Tryz.prog 37 = some true := by kernel_rfl
theorem flT37 : fldsOk Tryz.prog 37 = true := by kernel_rfl
theorem fdT37_0 : fldOf Tryz.prog 37 0 = some (0, 4, 36) := by kernel_rfl
theorem fdT37_1 : fldOf Tryz.prog 37 1 = some (4, 4, 36) := by kernel_rfl
theorem fdT37_2 : fldOf Tryz.prog 37 2 = some (8, 4, 36) := by kernel_rfl
theorem zoT37 : zOf Tryz.prog 37 = some [.int .u64 0, .int .u64 0, .int .u64 0, .int .u64 0, .int .u64 0, .int .u64 0, .int .u64 0, .int .u64 0, .int .u64 0, .int .u64 0, .int .u64 0, .int .u64 0] := by kernel_rfl
theorem szT38 : szOf Tryz.prog 38 = some 12 := by kernel_rfl
theorem byT38 : byOf Tryz.prog 38 = some 96 := by kernel_rfl
theorem agT38 : aggT Tryz.prog 38 = some true := by kernel_rfl
theorem flT38 : fldsOk Tryz.prog 38 = true := by kernel_rfl
theorem fdT38_0 : fldOf Tryz.prog 38 0 = some (0, 4, 36) := by kernel_rfl
theorem fdT38_1 : fldOf Tryz.prog 38 1 = some (4, 4, 36) := by kernel_rfl
theorem fdT38_2 : fldOf Tryz.prog 38 2 = some (8, 4, 36) := by kernel_rfl
theorem zoT38 : zOf Tryz.prog 38 = some [.int .u64 0, .int .u64 0, .int .u64 0, .int .u64 0, .int .u64 0, .int .u64 0, .int .u64 0, .int .u64 0, .int .u64 0, .int .u64 0, .int .u64 0, .int .u64 0] := by kernel_rfl
theorem szT42 : szOf Tryz.prog 42 = some 1 := by kernel_rfl
theorem byT42 : byOf Tryz.prog 42 = some 24 := by kernel_rfl
theorem agT42 : aggT Tryz.prog 42 = some false := by kernel_rfl
theorem elT42 : elOf Tryz.prog 42 = some 5 := by kernel_rfl
theorem unT42 : Tryz.prog.underlying 42 = some (.slice 5) := Tryz.underlying42
theorem zoT42 : zOf Tryz.prog 42 = some [.nsl] := by kernel_rfl
theorem szT44 : szOf Tryz.prog 44 = some 1 := by kernel_rfl
theorem byT44 : byOf Tryz.prog 44 = some 24 := by kernel_rfl
theorem agT44 : aggT Tryz.prog 44 = some false := by kernel_rfl
theorem elT44 : elOf Tryz.prog 44 = some 55 := by kernel_rfl
theorem unT44 : Tryz.prog.underlying 44 = some (.slice 55) := Tryz.underlying44
theorem zoT44 : zOf Tryz.prog 44 = some [.nsl] := by kernel_rfl
theorem szT47 : szOf Tryz.prog 47 = some 1 := by kernel_rfl
theorem byT47 : byOf Tryz.prog 47 = some 24 := by kernel_rfl
theorem agT47 : aggT Tryz.prog 47 = some false := by kernel_rfl
theorem elT47 : elOf Tryz.prog 47 = some 2 := by kernel_rfl
theorem unT47 : Tryz.prog.underlying 47 = some (.slice 2) := Tryz.underlying47
theorem zoT47 : zOf Tryz.prog 47 = some [.nsl] := by kernel_rfl
theorem szT52 : szOf Tryz.prog 52 = some 2 := by kernel_rfl
theorem byT52 : byOf Tryz.prog 52 = some 16 := by kernel_rfl
theorem agT52 : aggT Tryz.prog 52 = some true := by kernel_rfl
theorem flT52 : fldsOk Tryz.prog 52 = true := by kernel_rfl
theorem fdT52_0 : fldOf Tryz.prog 52 0 = some (0, 1, 2) := by kernel_rfl
theorem fdT52_1 : fldOf Tryz.prog 52 1 = some (1, 1, 2) := by kernel_rfl
theorem zoT52 : zOf Tryz.prog 52 = some [.int .i64 0, .int .i64 0] := by kernel_rfl
theorem szT53 : szOf Tryz.prog 53 = some 2 := by kernel_rfl
theorem byT53 : byOf Tryz.prog 53 = some 16 := by kernel_rfl
theorem agT53 : aggT Tryz.prog 53 = some true := by kernel_rfl
theorem flT53 : fldsOk Tryz.prog 53 = true := by kernel_rfl
theorem fdT53_0 : fldOf Tryz.prog 53 0 = some (0, 1, 2) := by kernel_rfl
theorem fdT53_1 : fldOf Tryz.prog 53 1 = some (1, 1, 2) := by kernel_rfl
theorem zoT53 : zOf Tryz.prog 53 = some [.int .i64 0, .int .i64 0] := by kernel_rfl
theorem szT54 : szOf Tryz.prog 54 = some 4 := by kernel_rfl
theorem byT54 : byOf Tryz.prog 54 = some 32 := by kernel_rfl
theorem agT54 : aggT Tryz.prog 54 = some true := by kernel_rfl
theorem flT54 : fldsOk Tryz.prog 54 = true := by kernel_rfl
theorem fdT54_0 : fldOf Tryz.prog 54 0 = some (0, 2, 53) := by kernel_rfl
theorem fdT54_1 : fldOf Tryz.prog 54 1 = some (2, 2, 53) := by kernel_rfl
theorem zoT54 : zOf Tryz.prog 54 = some [.int .i64 0, .int .i64 0, .int .i64 0, .int .i64 0] := by kernel_rfl
theorem szT55 : szOf Tryz.prog 55 = some 4 := by kernel_rfl
theorem byT55 : byOf Tryz.prog 55 = some 32 := by kernel_rfl
theorem agT55 : aggT Tryz.prog 55 = some true := by kernel_rfl
theorem flT55 : fldsOk Tryz.prog 55 = true := by kernel_rfl
theorem fdT55_0 : fldOf Tryz.prog 55 0 = some (0, 2, 53) := by kernel_rfl
theorem fdT55_1 : fldOf Tryz.prog 55 1 = some (2, 2, 53) := by kernel_rfl
theorem zoT55 : zOf Tryz.prog 55 = some [.int .i64 0, .int .i64 0, .int .i64 0, .int .i64 0] := by kernel_rfl
theorem szT56 : szOf Tryz.prog 56 = some 1 := by kernel_rfl
theorem byT56 : byOf Tryz.prog 56 = some 24 := by kernel_rfl
theorem agT56 : aggT Tryz.prog 56 = some false := by kernel_rfl
theorem elT56 : elOf Tryz.prog 56 = some 24 := by kernel_rfl
theorem unT56 : Tryz.prog.underlying 56 = some (.slice 24) := Tryz.underlying56
theorem zoT56 : zOf Tryz.prog 56 = some [.nsl] := by kernel_rfl
theorem szT59 : szOf Tryz.prog 59 = some 1 := by kernel_rfl
theorem byT59 : byOf Tryz.prog 59 = some 24 := by kernel_rfl
theorem agT59 : aggT Tryz.prog 59 = some false := by kernel_rfl
theorem elT59 : elOf Tryz.prog 59 = some 34 := by kernel_rfl
theorem unT59 : Tryz.prog.underlying 59 = some (.slice 34) := Tryz.underlying59
theorem zoT59 : zOf Tryz.prog 59 = some [.nsl] := by kernel_rfl
theorem szT71 : szOf Tryz.prog 71 = some 1 := by kernel_rfl
theorem byT71 : byOf Tryz.prog 71 = some 24 := by kernel_rfl
theorem agT71 : aggT Tryz.prog 71 = some false := by kernel_rfl
theorem elT71 : elOf Tryz.prog 71 = some 164 := by kernel_rfl
theorem unT71 : Tryz.prog.underlying 71 = some (.slice 164) := Tryz.underlying71
theorem zoT71 : zOf Tryz.prog 71 = some [.nsl] := by kernel_rfl
theorem szT72 : szOf Tryz.prog 72 = some 2 := by kernel_rfl
theorem byT72 : byOf Tryz.prog 72 = some 32 := by kernel_rfl
theorem agT72 : aggT Tryz.prog 72 = some true := by kernel_rfl
theorem flT72 : fldsOk Tryz.prog 72 = true := by kernel_rfl
theorem fdT72_0 : fldOf Tryz.prog 72 0 = some (0, 1, 4) := by kernel_rfl
theorem fdT72_1 : fldOf Tryz.prog 72 1 = some (1, 1, 71) := by kernel_rfl
theorem zoT72 : zOf Tryz.prog 72 = some [.bool false, .nsl] := by kernel_rfl
theorem szT73 : szOf Tryz.prog 73 = some 2 := by kernel_rfl
theorem byT73 : byOf Tryz.prog 73 = some 32 := by kernel_rfl
theorem agT73 : aggT Tryz.prog 73 = some true := by kernel_rfl
theorem flT73 : fldsOk Tryz.prog 73 = true := by kernel_rfl
theorem fdT73_0 : fldOf Tryz.prog 73 0 = some (0, 1, 4) := by kernel_rfl
theorem fdT73_1 : fldOf Tryz.prog 73 1 = some (1, 1, 71) := by kernel_rfl
theorem zoT73 : zOf Tryz.prog 73 = some [.bool false, .nsl] := by kernel_rfl
theorem szT74 : szOf Tryz.prog 74 = some 6 := by kernel_rfl
theorem byT74 : byOf Tryz.prog 74 = some 96 := by kernel_rfl
theorem agT74 : aggT Tryz.prog 74 = some true := by kernel_rfl
theorem flT74 : fldsOk Tryz.prog 74 = true := by kernel_rfl
theorem fdT74_0 : fldOf Tryz.prog 74 0 = some (0, 2, 73) := by kernel_rfl
theorem fdT74_1 : fldOf Tryz.prog 74 1 = some (2, 2, 73) := by kernel_rfl
theorem fdT74_2 : fldOf Tryz.prog 74 2 = some (4, 2, 73) := by kernel_rfl
theorem zoT74 : zOf Tryz.prog 74 = some [.bool false, .nsl, .bool false, .nsl, .bool false, .nsl] := by kernel_rfl
theorem szT75 : szOf Tryz.prog 75 = some 6 := by kernel_rfl
theorem byT75 : byOf Tryz.prog 75 = some 96 := by kernel_rfl
theorem agT75 : aggT Tryz.prog 75 = some true := by kernel_rfl
theorem flT75 : fldsOk Tryz.prog 75 = true := by kernel_rfl
theorem fdT75_0 : fldOf Tryz.prog 75 0 = some (0, 2, 73) := by kernel_rfl
theorem fdT75_1 : fldOf Tryz.prog 75 1 = some (2, 2, 73) := by kernel_rfl
theorem fdT75_2 : fldOf Tryz.prog 75 2 = some (4, 2, 73) := by kernel_rfl
theorem zoT75 : zOf Tryz.prog 75 = some [.bool false, .nsl, .bool false, .nsl, .bool false, .nsl] := by kernel_rfl
theorem szT81 : szOf Tryz.prog 81 = some 1 := by kernel_rfl
theorem byT81 : byOf Tryz.prog 81 = some 8 := by kernel_rfl
theorem agT81 : aggT Tryz.prog 81 = some false := by kernel_rfl
theorem unT81 : Tryz.prog.underlying 81 = some (.pointer 129) := Tryz.underlying81
theorem zoT81 : zOf Tryz.prog 81 = some [.nil] := by kernel_rfl
theorem szT86 : szOf Tryz.prog 86 = some 1 := by kernel_rfl
theorem byT86 : byOf Tryz.prog 86 = some 24 := by kernel_rfl
theorem agT86 : aggT Tryz.prog 86 = some false := by kernel_rfl
theorem elT86 : elOf Tryz.prog 86 = some 25 := by kernel_rfl
theorem unT86 : Tryz.prog.underlying 86 = some (.slice 25) := Tryz.underlying86
theorem zoT86 : zOf Tryz.prog 86 = some [.nsl] := by kernel_rfl
theorem szT87 : szOf Tryz.prog 87 = some 2 := by kernel_rfl
theorem byT87 : byOf Tryz.prog 87 = some 32 := by kernel_rfl
theorem agT87 : aggT Tryz.prog 87 = some true := by kernel_rfl
theorem flT87 : fldsOk Tryz.prog 87 = true := by kernel_rfl
theorem fdT87_0 : fldOf Tryz.prog 87 0 = some (0, 1, 4) := by kernel_rfl
theorem fdT87_1 : fldOf Tryz.prog 87 1 = some (1, 1, 86) := by kernel_rfl
theorem zoT87 : zOf Tryz.prog 87 = some [.bool false, .nsl] := by kernel_rfl
theorem szT88 : szOf Tryz.prog 88 = some 2 := by kernel_rfl
theorem byT88 : byOf Tryz.prog 88 = some 32 := by kernel_rfl
theorem agT88 : aggT Tryz.prog 88 = some true := by kernel_rfl
theorem flT88 : fldsOk Tryz.prog 88 = true := by kernel_rfl
theorem fdT88_0 : fldOf Tryz.prog 88 0 = some (0, 1, 4) := by kernel_rfl
theorem fdT88_1 : fldOf Tryz.prog 88 1 = some (1, 1, 86) := by kernel_rfl
theorem zoT88 : zOf Tryz.prog 88 = some [.bool false, .nsl] := by kernel_rfl
theorem szT89 : szOf Tryz.prog 89 = some 6 := by kernel_rfl
theorem byT89 : byOf Tryz.prog 89 = some 96 := by kernel_rfl
theorem agT89 : aggT Tryz.prog 89 = some true := by kernel_rfl
theorem flT89 : fldsOk Tryz.prog 89 = true := by kernel_rfl
theorem fdT89_0 : fldOf Tryz.prog 89 0 = some (0, 2, 88) := by kernel_rfl
theorem fdT89_1 : fldOf Tryz.prog 89 1 = some (2, 2, 88) := by kernel_rfl
theorem fdT89_2 : fldOf Tryz.prog 89 2 = some (4, 2, 88) := by kernel_rfl
theorem zoT89 : zOf Tryz.prog 89 = some [.bool false, .nsl, .bool false, .nsl, .bool false, .nsl] := by kernel_rfl
theorem szT90 : szOf Tryz.prog 90 = some 6 := by kernel_rfl
theorem byT90 : byOf Tryz.prog 90 = some 96 := by kernel_rfl
theorem agT90 : aggT Tryz.prog 90 = some true := by kernel_rfl
theorem flT90 : fldsOk Tryz.prog 90 = true := by kernel_rfl
theorem fdT90_0 : fldOf Tryz.prog 90 0 = some (0, 2, 88) := by kernel_rfl
theorem fdT90_1 : fldOf Tryz.prog 90 1 = some (2, 2, 88) := by kernel_rfl
theorem fdT90_2 : fldOf Tryz.prog 90 2 = some (4, 2, 88) := by kernel_rfl
theorem zoT90 : zOf Tryz.prog 90 = some [.bool false, .nsl, .bool false, .nsl, .bool false, .nsl] := by kernel_rfl
theorem szT95 : szOf Tryz.prog 95 = some 4 := by kernel_rfl
theorem byT95 : byOf Tryz.prog 95 = some 64 := by kernel_rfl
theorem agT95 : aggT Tryz.prog 95 = some true := by kernel_rfl
theorem flT95 : fldsOk Tryz.prog 95 = true := by kernel_rfl
theorem fdT95_0 : fldOf Tryz.prog 95 0 = some (0, 2, 88) := by kernel_rfl
theorem fdT95_1 : fldOf Tryz.prog 95 1 = some (2, 2, 88) := by kernel_rfl
theorem zoT95 : zOf Tryz.prog 95 = some [.bool false, .nsl, .bool false, .nsl] := by kernel_rfl
theorem szT96 : szOf Tryz.prog 96 = some 4 := by kernel_rfl
theorem byT96 : byOf Tryz.prog 96 = some 64 := by kernel_rfl
theorem agT96 : aggT Tryz.prog 96 = some true := by kernel_rfl
theorem flT96 : fldsOk Tryz.prog 96 = true := by kernel_rfl
theorem fdT96_0 : fldOf Tryz.prog 96 0 = some (0, 2, 88) := by kernel_rfl
theorem fdT96_1 : fldOf Tryz.prog 96 1 = some (2, 2, 88) := by kernel_rfl
theorem zoT96 : zOf Tryz.prog 96 = some [.bool false, .nsl, .bool false, .nsl] := by kernel_rfl
theorem szT123 : szOf Tryz.prog 123 = some 2 := by kernel_rfl
theorem byT123 : byOf Tryz.prog 123 = some 16 := by kernel_rfl
theorem agT123 : aggT Tryz.prog 123 = some true := by kernel_rfl
theorem flT123 : fldsOk Tryz.prog 123 = true := by kernel_rfl
theorem fdT123_0 : fldOf Tryz.prog 123 0 = some (0, 1, 2) := by kernel_rfl
theorem fdT123_1 : fldOf Tryz.prog 123 1 = some (1, 1, 2) := by kernel_rfl
theorem zoT123 : zOf Tryz.prog 123 = some [.int .i64 0, .int .i64 0] := by kernel_rfl
theorem szT128 : szOf Tryz.prog 128 = some 2 := by kernel_rfl
theorem byT128 : byOf Tryz.prog 128 = some 32 := by kernel_rfl
theorem agT128 : aggT Tryz.prog 128 = some true := by kernel_rfl
theorem flT128 : fldsOk Tryz.prog 128 = true := by kernel_rfl
theorem fdT128_0 : fldOf Tryz.prog 128 0 = some (0, 1, 42) := by kernel_rfl
theorem fdT128_1 : fldOf Tryz.prog 128 1 = some (1, 1, 3) := by kernel_rfl
theorem zoT128 : zOf Tryz.prog 128 = some [.nsl, .int .i64 0] := by kernel_rfl
theorem szT129 : szOf Tryz.prog 129 = some 2 := by kernel_rfl
theorem byT129 : byOf Tryz.prog 129 = some 32 := by kernel_rfl
theorem agT129 : aggT Tryz.prog 129 = some true := by kernel_rfl
theorem flT129 : fldsOk Tryz.prog 129 = true := by kernel_rfl
theorem fdT129_0 : fldOf Tryz.prog 129 0 = some (0, 1, 42) := by kernel_rfl
theorem fdT129_1 : fldOf Tryz.prog 129 1 = some (1, 1, 3) := by kernel_rfl
theorem zoT129 : zOf Tryz.prog 129 = some [.nsl, .int .i64 0] := by kernel_rfl
theorem szT141 : szOf Tryz.prog 141 = some 1 := by kernel_rfl
theorem byT141 : byOf Tryz.prog 141 = some 8 := by kernel_rfl
theorem agT141 : aggT Tryz.prog 141 = some false := by kernel_rfl
theorem unT141 : Tryz.prog.underlying 141 = some (.int .u64) := Tryz.underlying141
theorem zoT141 : zOf Tryz.prog 141 = some [.int .u64 0] := by kernel_rfl
theorem szT152 : szOf Tryz.prog 152 = some 1 := by kernel_rfl
theorem byT152 : byOf Tryz.prog 152 = some 24 := by kernel_rfl
theorem agT152 : aggT Tryz.prog 152 = some false := by kernel_rfl
theorem elT152 : elOf Tryz.prog 152 = some 3 := by kernel_rfl
theorem unT152 : Tryz.prog.underlying 152 = some (.slice 3) := Tryz.underlying152
theorem zoT152 : zOf Tryz.prog 152 = some [.nsl] := by kernel_rfl
theorem szT164 : szOf Tryz.prog 164 = some 1 := by kernel_rfl
theorem byT164 : byOf Tryz.prog 164 = some 4 := by kernel_rfl
theorem agT164 : aggT Tryz.prog 164 = some false := by kernel_rfl
theorem unT164 : Tryz.prog.underlying 164 = some (.int .u32) := Tryz.underlying164
theorem zoT164 : zOf Tryz.prog 164 = some [.int .u32 0] := by kernel_rfl
theorem szT173 : szOf Tryz.prog 173 = some 1 := by kernel_rfl
theorem byT173 : byOf Tryz.prog 173 = some 24 := by kernel_rfl
theorem agT173 : aggT Tryz.prog 173 = some false := by kernel_rfl
theorem elT173 : elOf Tryz.prog 173 = some 88 := by kernel_rfl
theorem unT173 : Tryz.prog.underlying 173 = some (.slice 88) := Tryz.underlying173
theorem zoT173 : zOf Tryz.prog 173 = some [.nsl] := by kernel_rfl
theorem szT182 : szOf Tryz.prog 182 = some 1 := by kernel_rfl
theorem byT182 : byOf Tryz.prog 182 = some 24 := by kernel_rfl
theorem agT182 : aggT Tryz.prog 182 = some false := by kernel_rfl
theorem elT182 : elOf Tryz.prog 182 = some 36 := by kernel_rfl
theorem unT182 : Tryz.prog.underlying 182 = some (.slice 36) := Tryz.underlying182
theorem zoT182 : zOf Tryz.prog 182 = some [.nsl] := by kernel_rfl
theorem szT205 : szOf Tryz.prog 205 = some 1 := by kernel_rfl
theorem byT205 : byOf Tryz.prog 205 = some 8 := by kernel_rfl
theorem agT205 : aggT Tryz.prog 205 = some false := by kernel_rfl
theorem unT205 : Tryz.prog.underlying 205 = some (.pointer 222) := Tryz.underlying205
theorem zoT205 : zOf Tryz.prog 205 = some [.nil] := by kernel_rfl
theorem szT207 : szOf Tryz.prog 207 = some 4 := by kernel_rfl
theorem byT207 : byOf Tryz.prog 207 = some 40 := by kernel_rfl
theorem agT207 : aggT Tryz.prog 207 = some true := by kernel_rfl
theorem flT207 : fldsOk Tryz.prog 207 = true := by kernel_rfl
theorem fdT207_0 : fldOf Tryz.prog 207 0 = some (0, 1, 17) := by kernel_rfl
theorem fdT207_1 : fldOf Tryz.prog 207 1 = some (1, 1, 17) := by kernel_rfl
theorem fdT207_2 : fldOf Tryz.prog 207 2 = some (2, 1, 17) := by kernel_rfl
theorem fdT207_3 : fldOf Tryz.prog 207 3 = some (3, 1, 9) := by kernel_rfl
theorem zoT207 : zOf Tryz.prog 207 = some [.nil, .nil, .nil, .str ⟨#[]⟩] := by kernel_rfl
theorem szT208 : szOf Tryz.prog 208 = some 4 := by kernel_rfl
theorem byT208 : byOf Tryz.prog 208 = some 40 := by kernel_rfl
theorem agT208 : aggT Tryz.prog 208 = some true := by kernel_rfl
theorem flT208 : fldsOk Tryz.prog 208 = true := by kernel_rfl
theorem fdT208_0 : fldOf Tryz.prog 208 0 = some (0, 1, 17) := by kernel_rfl
theorem fdT208_1 : fldOf Tryz.prog 208 1 = some (1, 1, 17) := by kernel_rfl
theorem fdT208_2 : fldOf Tryz.prog 208 2 = some (2, 1, 17) := by kernel_rfl
theorem fdT208_3 : fldOf Tryz.prog 208 3 = some (3, 1, 9) := by kernel_rfl
theorem zoT208 : zOf Tryz.prog 208 = some [.nil, .nil, .nil, .str ⟨#[]⟩] := by kernel_rfl
theorem szT210 : szOf Tryz.prog 210 = some 0 := by kernel_rfl
theorem byT210 : byOf Tryz.prog 210 = some 0 := by kernel_rfl
theorem agT210 : aggT Tryz.prog 210 = some true := by kernel_rfl
theorem flT210 : fldsOk Tryz.prog 210 = true := by kernel_rfl
theorem fdT210_0 : fldOf Tryz.prog 210 0 = some (0, 0, 209) := by kernel_rfl
theorem zoT210 : zOf Tryz.prog 210 = some [] := by kernel_rfl
theorem szT211 : szOf Tryz.prog 211 = some 0 := by kernel_rfl
theorem byT211 : byOf Tryz.prog 211 = some 0 := by kernel_rfl
theorem agT211 : aggT Tryz.prog 211 = some true := by kernel_rfl
theorem flT211 : fldsOk Tryz.prog 211 = true := by kernel_rfl
theorem fdT211_0 : fldOf Tryz.prog 211 0 = some (0, 0, 209) := by kernel_rfl
theorem zoT211 : zOf Tryz.prog 211 = some [] := by kernel_rfl
theorem szT212 : szOf Tryz.prog 212 = some 1 := by kernel_rfl
theorem byT212 : byOf Tryz.prog 212 = some 1 := by kernel_rfl
theorem agT212 : aggT Tryz.prog 212 = some false := by kernel_rfl
theorem unT212 : Tryz.prog.underlying 212 = some (.int .u8) := Tryz.underlying212
theorem zoT212 : zOf Tryz.prog 212 = some [.int .u8 0] := by kernel_rfl
theorem szT213 : szOf Tryz.prog 213 = some 1 := by kernel_rfl
theorem byT213 : byOf Tryz.prog 213 = some 1 := by kernel_rfl
theorem agT213 : aggT Tryz.prog 213 = some false := by kernel_rfl
theorem unT213 : Tryz.prog.underlying 213 = some (.int .u8) := Tryz.underlying213
theorem zoT213 : zOf Tryz.prog 213 = some [.int .u8 0] := by kernel_rfl
theorem szT215 : szOf Tryz.prog 215 = some 1 := by kernel_rfl
theorem byT215 : byOf Tryz.prog 215 = some 8 := by kernel_rfl
theorem agT215 : aggT Tryz.prog 215 = some false := by kernel_rfl
theorem unT215 : Tryz.prog.underlying 215 = some (.pointer 5) := Tryz.underlying215
theorem zoT215 : zOf Tryz.prog 215 = some [.nil] := by kernel_rfl
theorem szT216 : szOf Tryz.prog 216 = some 1 := by kernel_rfl
theorem byT216 : byOf Tryz.prog 216 = some 4 := by kernel_rfl
theorem agT216 : aggT Tryz.prog 216 = some false := by kernel_rfl
theorem unT216 : Tryz.prog.underlying 216 = some (.int .i32) := Tryz.underlying216
theorem zoT216 : zOf Tryz.prog 216 = some [.int .i32 0] := by kernel_rfl
theorem szT217 : szOf Tryz.prog 217 = some 1 := by kernel_rfl
theorem byT217 : byOf Tryz.prog 217 = some 4 := by kernel_rfl
theorem agT217 : aggT Tryz.prog 217 = some false := by kernel_rfl
theorem unT217 : Tryz.prog.underlying 217 = some (.int .i32) := Tryz.underlying217
theorem zoT217 : zOf Tryz.prog 217 = some [.int .i32 0] := by kernel_rfl
theorem szT221 : szOf Tryz.prog 221 = some 1 := by kernel_rfl
theorem byT221 : byOf Tryz.prog 221 = some 16 := by kernel_rfl
theorem agT221 : aggT Tryz.prog 221 = some true := by kernel_rfl
theorem flT221 : fldsOk Tryz.prog 221 = true := by kernel_rfl
theorem fdT221_0 : fldOf Tryz.prog 221 0 = some (0, 1, 9) := by kernel_rfl
theorem zoT221 : zOf Tryz.prog 221 = some [.str ⟨#[]⟩] := by kernel_rfl
theorem szT222 : szOf Tryz.prog 222 = some 1 := by kernel_rfl
theorem byT222 : byOf Tryz.prog 222 = some 16 := by kernel_rfl
theorem agT222 : aggT Tryz.prog 222 = some true := by kernel_rfl
theorem flT222 : fldsOk Tryz.prog 222 = true := by kernel_rfl
theorem fdT222_0 : fldOf Tryz.prog 222 0 = some (0, 1, 9) := by kernel_rfl
theorem zoT222 : zOf Tryz.prog 222 = some [.str ⟨#[]⟩] := by kernel_rfl
theorem hb2 : hasBody Tryz.prog 2 = true := by kernel_rfl
theorem hb3 : hasBody Tryz.prog 3 = true := by kernel_rfl
theorem hb4 : hasBody Tryz.prog 4 = true := by kernel_rfl
theorem hb5 : hasBody Tryz.prog 5 = true := by kernel_rfl
theorem hb6 : hasBody Tryz.prog 6 = true := by kernel_rfl
theorem hb7 : hasBody Tryz.prog 7 = true := by kernel_rfl
theorem hb8 : hasBody Tryz.prog 8 = true := by kernel_rfl
theorem hb9 : hasBody Tryz.prog 9 = true := by kernel_rfl
theorem hb10 : hasBody Tryz.prog 10 = true := by kernel_rfl
theorem hb11 : hasBody Tryz.prog 11 = true := by kernel_rfl
theorem hb12 : hasBody Tryz.prog 12 = true := by kernel_rfl
theorem hb13 : hasBody Tryz.prog 13 = true := by kernel_rfl
theorem hb14 : hasBody Tryz.prog 14 = true := by kernel_rfl
theorem hb15 : hasBody Tryz.prog 15 = true := by kernel_rfl
theorem hb16 : hasBody Tryz.prog 16 = true := by kernel_rfl
theorem hb17 : hasBody Tryz.prog 17 = true := by kernel_rfl
theorem hb18 : hasBody Tryz.prog 18 = true := by kernel_rfl
theorem hb19 : hasBody Tryz.prog 19 = true := by kernel_rfl
theorem hb20 : hasBody Tryz.prog 20 = true := by kernel_rfl
theorem hb21 : hasBody Tryz.prog 21 = true := by kernel_rfl
theorem hb22 : hasBody Tryz.prog 22 = true := by kernel_rfl
theorem hb23 : hasBody Tryz.prog 23 = true := by kernel_rfl
theorem hb24 : hasBody Tryz.prog 24 = true := by kernel_rfl
theorem hb25 : hasBody Tryz.prog 25 = true := by kernel_rfl
theorem hb26 : hasBody Tryz.prog 26 = true := by kernel_rfl
theorem hb27 : hasBody Tryz.prog 27 = true := by kernel_rfl
theorem hb28 : hasBody Tryz.prog 28 = true := by kernel_rfl
theorem hb29 : hasBody Tryz.prog 29 = true := by kernel_rfl
theorem hb30 : hasBody Tryz.prog 30 = true := by kernel_rfl
theorem hb31 : hasBody Tryz.prog 31 = true := by kernel_rfl
theorem hb32 : hasBody Tryz.prog 32 = true := by kernel_rfl
theorem hb33 : hasBody Tryz.prog 33 = true := by kernel_rfl
theorem hb34 : hasBody Tryz.prog 34 = true := by kernel_rfl
theorem hb35 : hasBody Tryz.prog 35 = true := by kernel_rfl
theorem hb36 : hasBody Tryz.prog 36 = true := by kernel_rfl
theorem hb37 : hasBody Tryz.prog 37 = true := by kernel_rfl
theorem hb38 : hasBody Tryz.prog 38 = true := by kernel_rfl
theorem hb39 : hasBody Tryz.prog 39 = true := by kernel_rfl
theorem hb40 : hasBody Tryz.prog 40 = true := by kernel_rfl
theorem hb41 : hasBody Tryz.prog 41 = true := by kernel_rfl
theorem hb42 : hasBody Tryz.prog 42 = true := by kernel_rfl
theorem hb43 : hasBody Tryz.prog 43 = true := by kernel_rfl
theorem hb44 : hasBody Tryz.prog 44 = true := by kernel_rfl
theorem hb45 : hasBody Tryz.prog 45 = true := by kernel_rfl
theorem hb46 : hasBody Tryz.prog 46 = true := by kernel_rfl
theorem hb47 : hasBody Tryz.prog 47 = true := by kernel_rfl
theorem hb48 : hasBody Tryz.prog 48 = true := by kernel_rfl
theorem hb49 : hasBody Tryz.prog 49 = true := by kernel_rfl
theorem hb50 : hasBody Tryz.prog 50 = true := by kernel_rfl
theorem hb51 : hasBody Tryz.prog 51 = true := by kernel_rfl
theorem hb52 : hasBody Tryz.prog 52 = true := by kernel_rfl
theorem hb53 : hasBody Tryz.prog 53 = true := by kernel_rfl
theorem hb54 : hasBody Tryz.prog 54 = true := by kernel_rfl
theorem hb55 : hasBody Tryz.prog 55 = true := by kernel_rfl
theorem hb56 : hasBody Tryz.prog 56 = true := by kernel_rfl
theorem hb57 : hasBody Tryz.prog 57 = true := by kernel_rfl
theorem hb58 : hasBody Tryz.prog 58 = true := by kernel_rfl
theorem hb59 : hasBody Tryz.prog 59 = true := by kernel_rfl
theorem hb60 : hasBody Tryz.prog 60 = true := by kernel_rfl
theorem hb61 : hasBody Tryz.prog 61 = true := by kernel_rfl
theorem hb62 : hasBody Tryz.prog 62 = true := by kernel_rfl
theorem hb63 : hasBody Tryz.prog 63 = true := by kernel_rfl
theorem hb64 : hasBody Tryz.prog 64 = true := by kernel_rfl
theorem hb65 : hasBody Tryz.prog 65 = true := by kernel_rfl
theorem hb66 : hasBody Tryz.prog 66 = true := by kernel_rfl
theorem hb67 : hasBody Tryz.prog 67 = true := by kernel_rfl
theorem hb68 : hasBody Tryz.prog 68 = true := by kernel_rfl
theorem hb69 : hasBody Tryz.prog 69 = true := by kernel_rfl
theorem hb70 : hasBody Tryz.prog 70 = true := by kernel_rfl
theorem hb71 : hasBody Tryz.prog 71 = true := by kernel_rfl
theorem hb72 : hasBody Tryz.prog 72 = true := by kernel_rfl
theorem hb73 : hasBody Tryz.prog 73 = true := by kernel_rfl
theorem hb74 : hasBody Tryz.prog 74 = true := by kernel_rfl
theorem hb75 : hasBody Tryz.prog 75 = true := by kernel_rfl
theorem hb76 : hasBody Tryz.prog 76 = true := by kernel_rfl
theorem hb77 : hasBody Tryz.prog 77 = true := by kernel_rfl
theorem hb78 : hasBody Tryz.prog 78 = true := by kernel_rfl
theorem hb79 : hasBody Tryz.prog 79 = true := by kernel_rfl
theorem hb80 : hasBody Tryz.prog 80 = true := by kernel_rfl
theorem hb81 : hasBody Tryz.prog 81 = true := by kernel_rfl
theorem hb82 : hasBody Tryz.prog 82 = true := by kernel_rfl
theorem hb83 : hasBody Tryz.prog 83 = true := by kernel_rfl
theorem hb84 : hasBody Tryz.prog 84 = true := by kernel_rfl
theorem hb85 : hasBody Tryz.prog 85 = true := by kernel_rfl
theorem hb86 : hasBody Tryz.prog 86 = true := by kernel_rfl
theorem hb87 : hasBody Tryz.prog 87 = true := by kernel_rfl
theorem hb88 : hasBody Tryz.prog 88 = true := by kernel_rfl
theorem hb89 : hasBody Tryz.prog 89 = true := by kernel_rfl
theorem hb90 : hasBody Tryz.prog 90 = true := by kernel_rfl
theorem hb91 : hasBody Tryz.prog 91 = true := by kernel_rfl
theorem hb92 : hasBody Tryz.prog 92 = true := by kernel_rfl
theorem hb93 : hasBody Tryz.prog 93 = true := by kernel_rfl
theorem hb94 : hasBody Tryz.prog 94 = true := by kernel_rfl
theorem hb95 : hasBody Tryz.prog 95 = true := by kernel_rfl
theorem hb96 : hasBody Tryz.prog 96 = true := by kernel_rfl
theorem hb97 : hasBody Tryz.prog 97 = true := by kernel_rfl
theorem hb98 : hasBody Tryz.prog 98 = true := by kernel_rfl
theorem hb99 : hasBody Tryz.prog 99 = true := by kernel_rfl
theorem hb100 : hasBody Tryz.prog 100 = true := by kernel_rfl
theorem hb101 : hasBody Tryz.prog 101 = true := by kernel_rfl
theorem hb102 : hasBody Tryz.prog 102 = true := by kernel_rfl
theorem hb103 : hasBody Tryz.prog 103 = true := by kernel_rfl
theorem hb104 : hasBody Tryz.prog 104 = true := by kernel_rfl
theorem hb105 : hasBody Tryz.prog 105 = true := by kernel_rfl
theorem hb107 : hasBody Tryz.prog 107 = true := by kernel_rfl
theorem hb108 : hasBody Tryz.prog 108 = true := by kernel_rfl
theorem hb109 : hasBody Tryz.prog 109 = true := by kernel_rfl
theorem hb110 : hasBody Tryz.prog 110 = true := by kernel_rfl
theorem hb111 : hasBody Tryz.prog 111 = true := by kernel_rfl
theorem hb112 : hasBody Tryz.prog 112 = true := by kernel_rfl
theorem hb113 : hasBody Tryz.prog 113 = true := by kernel_rfl
theorem hb114 : hasBody Tryz.prog 114 = true := by kernel_rfl
theorem hb115 : hasBody Tryz.prog 115 = true := by kernel_rfl
theorem hb116 : hasBody Tryz.prog 116 = true := by kernel_rfl
theorem hb117 : hasBody Tryz.prog 117 = true := by kernel_rfl
theorem hb118 : hasBody Tryz.prog 118 = true := by kernel_rfl
theorem hb119 : hasBody Tryz.prog 119 = true := by kernel_rfl
theorem hb120 : hasBody Tryz.prog 120 = true := by kernel_rfl
theorem hb121 : hasBody Tryz.prog 121 = true := by kernel_rfl
theorem hb122 : hasBody Tryz.prog 122 = true := by kernel_rfl
theorem hb123 : hasBody Tryz.prog 123 = true := by kernel_rfl
theorem hb124 : hasBody Tryz.prog 124 = true := by kernel_rfl
theorem hb125 : hasBody Tryz.prog 125 = true := by kernel_rfl
theorem hb126 : hasBody Tryz.prog 126 = true := by kernel_rfl
theorem hb127 : hasBody Tryz.prog 127 = true := by kernel_rfl
theorem hb128 : hasBody Tryz.prog 128 = true := by kernel_rfl
theorem hb129 : hasBody Tryz.prog 129 = true := by kernel_rfl
theorem hb130 : hasBody Tryz.prog 130 = true := by kernel_rfl
theorem hb131 : hasBody Tryz.prog 131 = true := by kernel_rfl
theorem hb132 : hasBody Tryz.prog 132 = true := by kernel_rfl
theorem hb133 : hasBody Tryz.prog 133 = true := by kernel_rfl
theorem hb134 : hasBody Tryz.prog 134 = true := by kernel_rfl
theorem hb135 : hasBody Tryz.prog 135 = true := by kernel_rfl
theorem hb136 : hasBody Tryz.prog 136 = true := by kernel_rfl
theorem hb137 : hasBody Tryz.prog 137 = true := by kernel_rfl
theorem hb138 : hasBody Tryz.prog 138 = true := by kernel_rfl
theorem hb139 : hasBody Tryz.prog 139 = true := by kernel_rfl
theorem hb140 : hasBody Tryz.prog 140 = true := by kernel_rfl
theorem hb141 : hasBody Tryz.prog 141 = true := by kernel_rfl
theorem hb142 : hasBody Tryz.prog 142 = true := by kernel_rfl
theorem hb143 : hasBody Tryz.prog 143 = true := by kernel_rfl
theorem hb144 : hasBody Tryz.prog 144 = true := by kernel_rfl
theorem hb145 : hasBody Tryz.prog 145 = true := by kernel_rfl
theorem hb146 : hasBody Tryz.prog 146 = true := by kernel_rfl
theorem hb147 : hasBody Tryz.prog 147 = true := by kernel_rfl
theorem hb148 : hasBody Tryz.prog 148 = true := by kernel_rfl
theorem hb150 : hasBody Tryz.prog 150 = true := by kernel_rfl
theorem hb151 : hasBody Tryz.prog 151 = true := by kernel_rfl
theorem hb152 : hasBody Tryz.prog 152 = true := by kernel_rfl
theorem hb153 : hasBody Tryz.prog 153 = true := by kernel_rfl
theorem hb154 : hasBody Tryz.prog 154 = true := by kernel_rfl
theorem hb155 : hasBody Tryz.prog 155 = true := by kernel_rfl
theorem hb156 : hasBody Tryz.prog 156 = true := by kernel_rfl
theorem hb157 : hasBody Tryz.prog 157 = true := by kernel_rfl
theorem hb158 : hasBody Tryz.prog 158 = true := by kernel_rfl
theorem hb159 : hasBody Tryz.prog 159 = true := by kernel_rfl
theorem hb160 : hasBody Tryz.prog 160 = true := by kernel_rfl
theorem hb161 : hasBody Tryz.prog 161 = true := by kernel_rfl
theorem hb162 : hasBody Tryz.prog 162 = true := by kernel_rfl
theorem hb163 : hasBody Tryz.prog 163 = true := by kernel_rfl
theorem hb164 : hasBody Tryz.prog 164 = true := by kernel_rfl
theorem hb165 : hasBody Tryz.prog 165 = true := by kernel_rfl
theorem hb166 : hasBody Tryz.prog 166 = true := by kernel_rfl
theorem hb167 : hasBody Tryz.prog 167 = true := by kernel_rfl
theorem hb168 : hasBody Tryz.prog 168 = true := by kernel_rfl
theorem hb169 : hasBody Tryz.prog 169 = true := by kernel_rfl
theorem hb170 : hasBody Tryz.prog 170 = true := by kernel_rfl
theorem hb171 : hasBody Tryz.prog 171 = true := by kernel_rfl
theorem hb172 : hasBody Tryz.prog 172 = true := by kernel_rfl
theorem hb173 : hasBody Tryz.prog 173 = true := by kernel_rfl
theorem hb174 : hasBody Tryz.prog 174 = true := by kernel_rfl
theorem hb175 : hasBody Tryz.prog 175 = true := by kernel_rfl
theorem hb176 : hasBody Tryz.prog 176 = true := by kernel_rfl
theorem hb177 : hasBody Tryz.prog 177 = true := by kernel_rfl
theorem nb106 : Bodyless Tryz.prog 106 add64Entry := ⟨Tryz.f106, Tryz.func106, by kernel_rfl, by kernel_rfl, by kernel_rfl, by kernel_rfl⟩
theorem nb149 : Bodyless Tryz.prog 149 sub64Entry := ⟨Tryz.f149, Tryz.func149, by kernel_rfl, by kernel_rfl, by kernel_rfl, by kernel_rfl⟩
theorem mixT : Tryz.prog.follows .mixedOrders = true := Tryz.checked.mixed
attribute [simp] idf_Wd' List.getElem?_cons_zero List.getElem?_cons_succ List.getElem?_toArray runOps stepOp.eq_def agd.eq_def dstOk.eq_def opVal.eq_def opNew.eq_def opSto.eq_def ev.eq_def cv.eq_def puts_some puts_none upd_ap lst.eq_def aBin.eq_def aUn.eq_def aBi_str aBi_isl aBi_osl aBi_nsl aBi_cap aBi_max aBi_min aBi_max3 aConv.eq_def aLd.eq_def aLoad.eq_def aField.eq_def aFld.eq_def aIdx_isl aIdx_osl aSlc_isl aSlc_osl aSlc_str aSlc_nsl bnd.eq_def evs_nil evs_cons aBuild.eq_def aFill splice.eq_def cells_agg cells_int cells_bool cells_str cells_nil cells_nsl cells_isl cells_osl cells_ptr cells_ip cells_fn cells_Wd one_int one_bool one_str one_nil one_nsl one_isl one_osl one_ptr one_ip one_fn one_Wd aSets hupd_eq hupd_ne wrap_i64s wrap_u64s wrap_u32s wrap_u8s wd_getD wd_set wd_len wd_replicate wd_one wd_fold fz_osl hupd_same aSix.eq_def aEqS.eq_def aEqB_bool aEqB_nsl aEqB_nil
end Go.Proofs.YtdcajfgeleopiaaGreat
