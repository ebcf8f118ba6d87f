/- What is known of this seat's types and functions. -/
import Derived.Test.YtdcajfgeleopiaaG0Y
import Derived.Test.YtdcajfgeleopiaaChecked
import Derived.KernelRfl

namespace Go.Proofs.Ytdcajfgeleopiaa
open Go Go.RowKit
theorem dc : (∀ (p : Prop) [Decidable p], (decide p = true) = p) ∧ ∀ (p : Prop) [Decidable p], (decide p = false) = ¬ p := by simp
theorem ln : (∀ (α : Type) (a b : List α), (a ++ b).length = a.length + b.length) ∧ (∀ (α : Type) (x : α) (l : List α), (x :: l).length = l.length + 1) ∧ (∀ (α : Type), ([] : List α).length = 0) ∧ (∀ (α : Type) (l : List α) (i : Nat) (x : α), (l.set i x).length = l.length) ∧ (∀ (α : Type) (n : Nat) (x : α), (List.replicate n x).length = n) ∧ (∀ n : Nat, (n : Int).toNat = n) := by simp
theorem szT2 : szOf Try.prog 2 = some 1 := by kernel_rfl
theorem byT2 : byOf Try.prog 2 = some 8 := by kernel_rfl
theorem agT2 : aggT Try.prog 2 = some false := by kernel_rfl
theorem unT2 : Try.prog.underlying 2 = some (.int .i64) := Try.underlying2
theorem zoT2 : zOf Try.prog 2 = some [.int .i64 0] := by kernel_rfl
theorem szT3 : szOf Try.prog 3 = some 1 := by kernel_rfl
theorem byT3 : byOf Try.prog 3 = some 8 := by kernel_rfl
theorem agT3 : aggT Try.prog 3 = some false := by kernel_rfl
theorem unT3 : Try.prog.underlying 3 = some (.int .i64) := Try.underlying3
theorem zoT3 : zOf Try.prog 3 = some [.int .i64 0] := by kernel_rfl
theorem szT4 : szOf Try.prog 4 = some 1 := by kernel_rfl
theorem byT4 : byOf Try.prog 4 = some 1 := by kernel_rfl
theorem agT4 : aggT Try.prog 4 = some false := by kernel_rfl
theorem unT4 : Try.prog.underlying 4 = some .bool := Try.underlying4
theorem zoT4 : zOf Try.prog 4 = some [.bool false] := by kernel_rfl
theorem szT5 : szOf Try.prog 5 = some 1 := by kernel_rfl
theorem byT5 : byOf Try.prog 5 = some 1 := by kernel_rfl
theorem agT5 : aggT Try.prog 5 = some false := by kernel_rfl
theorem unT5 : Try.prog.underlying 5 = some (.int .u8) := Try.underlying5
theorem zoT5 : zOf Try.prog 5 = some [.int .u8 0] := by kernel_rfl
theorem szT6 : szOf Try.prog 6 = some 1 := by kernel_rfl
theorem byT6 : byOf Try.prog 6 = some 1 := by kernel_rfl
theorem agT6 : aggT Try.prog 6 = some false := by kernel_rfl
theorem unT6 : Try.prog.underlying 6 = some (.int .u8) := Try.underlying6
theorem zoT6 : zOf Try.prog 6 = some [.int .u8 0] := by kernel_rfl
theorem szT7 : szOf Try.prog 7 = some 4 := by kernel_rfl
theorem byT7 : byOf Try.prog 7 = some 24 := by kernel_rfl
theorem agT7 : aggT Try.prog 7 = some true := by kernel_rfl
theorem flT7 : fldsOk Try.prog 7 = true := by kernel_rfl
theorem fdT7_0 : fldOf Try.prog 7 0 = some (0, 1, 2) := by kernel_rfl
theorem fdT7_1 : fldOf Try.prog 7 1 = some (1, 1, 3) := by kernel_rfl
theorem fdT7_2 : fldOf Try.prog 7 2 = some (2, 1, 4) := by kernel_rfl
theorem fdT7_3 : fldOf Try.prog 7 3 = some (3, 1, 6) := by kernel_rfl
theorem zoT7 : zOf Try.prog 7 = some [.int .i64 0, .int .i64 0, .bool false, .int .u8 0] := by kernel_rfl
theorem szT8 : szOf Try.prog 8 = some 4 := by kernel_rfl
theorem byT8 : byOf Try.prog 8 = some 24 := by kernel_rfl
theorem agT8 : aggT Try.prog 8 = some true := by kernel_rfl
theorem flT8 : fldsOk Try.prog 8 = true := by kernel_rfl
theorem fdT8_0 : fldOf Try.prog 8 0 = some (0, 1, 2) := by kernel_rfl
theorem fdT8_1 : fldOf Try.prog 8 1 = some (1, 1, 3) := by kernel_rfl
theorem fdT8_2 : fldOf Try.prog 8 2 = some (2, 1, 4) := by kernel_rfl
theorem fdT8_3 : fldOf Try.prog 8 3 = some (3, 1, 6) := by kernel_rfl
theorem zoT8 : zOf Try.prog 8 = some [.int .i64 0, .int .i64 0, .bool false, .int .u8 0] := by kernel_rfl
theorem szT9 : szOf Try.prog 9 = some 1 := by kernel_rfl
theorem byT9 : byOf Try.prog 9 = some 16 := by kernel_rfl
theorem agT9 : aggT Try.prog 9 = some false := by kernel_rfl
theorem stT9 : strT Try.prog 9 = true := by kernel_rfl
theorem zoT9 : zOf Try.prog 9 = some [.str ⟨#[]⟩] := by kernel_rfl
theorem szT10 : szOf Try.prog 10 = some 1 := by kernel_rfl
theorem byT10 : byOf Try.prog 10 = some 16 := by kernel_rfl
theorem agT10 : aggT Try.prog 10 = some false := by kernel_rfl
theorem stT10 : strT Try.prog 10 = true := by kernel_rfl
theorem zoT10 : zOf Try.prog 10 = some [.str ⟨#[]⟩] := by kernel_rfl
theorem szT11 : szOf Try.prog 11 = some 1 := by kernel_rfl
theorem byT11 : byOf Try.prog 11 = some 16 := by kernel_rfl
theorem agT11 : aggT Try.prog 11 = some false := by kernel_rfl
theorem stT11 : strT Try.prog 11 = true := by kernel_rfl
theorem zoT11 : zOf Try.prog 11 = some [.str ⟨#[]⟩] := by kernel_rfl
theorem szT12 : szOf Try.prog 12 = some 1 := by kernel_rfl
theorem byT12 : byOf Try.prog 12 = some 8 := by kernel_rfl
theorem agT12 : aggT Try.prog 12 = some false := by kernel_rfl
theorem unT12 : Try.prog.underlying 12 = some (.int .u64) := Try.underlying12
theorem zoT12 : zOf Try.prog 12 = some [.int .u64 0] := by kernel_rfl
theorem szT13 : szOf Try.prog 13 = some 2 := by kernel_rfl
theorem byT13 : byOf Try.prog 13 = some 24 := by kernel_rfl
theorem agT13 : aggT Try.prog 13 = some true := by kernel_rfl
theorem flT13 : fldsOk Try.prog 13 = true := by kernel_rfl
theorem fdT13_0 : fldOf Try.prog 13 0 = some (0, 1, 9) := by kernel_rfl
theorem fdT13_1 : fldOf Try.prog 13 1 = some (1, 1, 12) := by kernel_rfl
theorem zoT13 : zOf Try.prog 13 = some [.str ⟨#[]⟩, .int .u64 0] := by kernel_rfl
theorem szT14 : szOf Try.prog 14 = some 2 := by kernel_rfl
theorem byT14 : byOf Try.prog 14 = some 24 := by kernel_rfl
theorem agT14 : aggT Try.prog 14 = some true := by kernel_rfl
theorem flT14 : fldsOk Try.prog 14 = true := by kernel_rfl
theorem fdT14_0 : fldOf Try.prog 14 0 = some (0, 1, 9) := by kernel_rfl
theorem fdT14_1 : fldOf Try.prog 14 1 = some (1, 1, 12) := by kernel_rfl
theorem zoT14 : zOf Try.prog 14 = some [.str ⟨#[]⟩, .int .u64 0] := by kernel_rfl
theorem szT15 : szOf Try.prog 15 = some 1 := by kernel_rfl
theorem byT15 : byOf Try.prog 15 = some 8 := by kernel_rfl
theorem agT15 : aggT Try.prog 15 = some false := by kernel_rfl
theorem unT15 : Try.prog.underlying 15 = some (.pointer 218) := Try.underlying15
theorem zoT15 : zOf Try.prog 15 = some [.nil] := by kernel_rfl
theorem szT16 : szOf Try.prog 16 = some 1 := by kernel_rfl
theorem byT16 : byOf Try.prog 16 = some 8 := by kernel_rfl
theorem agT16 : aggT Try.prog 16 = some false := by kernel_rfl
theorem unT16 : Try.prog.underlying 16 = some (.pointer 221) := Try.underlying16
theorem zoT16 : zOf Try.prog 16 = some [.nil] := by kernel_rfl
theorem szT17 : szOf Try.prog 17 = some 1 := by kernel_rfl
theorem byT17 : byOf Try.prog 17 = some 8 := by kernel_rfl
theorem agT17 : aggT Try.prog 17 = some false := by kernel_rfl
theorem unT17 : Try.prog.underlying 17 = some (.pointer 229) := Try.underlying17
theorem zoT17 : zOf Try.prog 17 = some [.nil] := by kernel_rfl
theorem szT18 : szOf Try.prog 18 = some 1 := by kernel_rfl
theorem byT18 : byOf Try.prog 18 = some 8 := by kernel_rfl
theorem agT18 : aggT Try.prog 18 = some true := by kernel_rfl
theorem flT18 : fldsOk Try.prog 18 = true := by kernel_rfl
theorem fdT18_0 : fldOf Try.prog 18 0 = some (0, 1, 17) := by kernel_rfl
theorem zoT18 : zOf Try.prog 18 = some [.nil] := by kernel_rfl
theorem szT19 : szOf Try.prog 19 = some 1 := by kernel_rfl
theorem byT19 : byOf Try.prog 19 = some 8 := by kernel_rfl
theorem agT19 : aggT Try.prog 19 = some true := by kernel_rfl
theorem flT19 : fldsOk Try.prog 19 = true := by kernel_rfl
theorem fdT19_0 : fldOf Try.prog 19 0 = some (0, 1, 17) := by kernel_rfl
theorem zoT19 : zOf Try.prog 19 = some [.nil] := by kernel_rfl
theorem szT21 : szOf Try.prog 21 = some 1 := by kernel_rfl
theorem byT21 : byOf Try.prog 21 = some 4 := by kernel_rfl
theorem agT21 : aggT Try.prog 21 = some false := by kernel_rfl
theorem unT21 : Try.prog.underlying 21 = some (.int .i32) := Try.underlying21
theorem zoT21 : zOf Try.prog 21 = some [.int .i32 0] := by kernel_rfl
theorem szT22 : szOf Try.prog 22 = some 1 := by kernel_rfl
theorem byT22 : byOf Try.prog 22 = some 24 := by kernel_rfl
theorem agT22 : aggT Try.prog 22 = some false := by kernel_rfl
theorem elT22 : elOf Try.prog 22 = some 5 := by kernel_rfl
theorem unT22 : Try.prog.underlying 22 = some (.slice 5) := Try.underlying22
theorem zoT22 : zOf Try.prog 22 = some [.nsl] := by kernel_rfl
theorem szT24 : szOf Try.prog 24 = some 1 := by kernel_rfl
theorem byT24 : byOf Try.prog 24 = some 8 := by kernel_rfl
theorem agT24 : aggT Try.prog 24 = some false := by kernel_rfl
theorem unT24 : Try.prog.underlying 24 = some (.int .u64) := Try.underlying24
theorem zoT24 : zOf Try.prog 24 = some [.int .u64 0] := by kernel_rfl
theorem szT25 : szOf Try.prog 25 = some 4 := by kernel_rfl
theorem byT25 : byOf Try.prog 25 = some 32 := by kernel_rfl
theorem agT25 : aggT Try.prog 25 = some true := by kernel_rfl
theorem flT25 : fldsOk Try.prog 25 = true := by kernel_rfl
theorem fdT25_0 : fldOf Try.prog 25 0 = some (0, 1, 24) := by kernel_rfl
theorem fdT25_1 : fldOf Try.prog 25 1 = some (1, 1, 24) := by kernel_rfl
theorem fdT25_2 : fldOf Try.prog 25 2 = some (2, 1, 24) := by kernel_rfl
theorem fdT25_3 : fldOf Try.prog 25 3 = some (3, 1, 24) := by kernel_rfl
theorem zoT25 : zOf Try.prog 25 = some [.int .u64 0, .int .u64 0, .int .u64 0, .int .u64 0] := by kernel_rfl
theorem szT26 : szOf Try.prog 26 = some 4 := by kernel_rfl
theorem byT26 : byOf Try.prog 26 = some 32 := by kernel_rfl
theorem agT26 : aggT Try.prog 26 = some true := by kernel_rfl
theorem flT26 : fldsOk Try.prog 26 = true := by kernel_rfl
theorem fdT26_0 : fldOf Try.prog 26 0 = some (0, 1, 24) := by kernel_rfl
theorem fdT26_1 : fldOf Try.prog 26 1 = some (1, 1, 24) := by kernel_rfl
theorem fdT26_2 : fldOf Try.prog 26 2 = some (2, 1, 24) := by kernel_rfl
theorem fdT26_3 : fldOf Try.prog 26 3 = some (3, 1, 24) := by kernel_rfl
theorem zoT26 : zOf Try.prog 26 = some [.int .u64 0, .int .u64 0, .int .u64 0, .int .u64 0] := by kernel_rfl
theorem szT27 : szOf Try.prog 27 = some 8 := by kernel_rfl
theorem byT27 : byOf Try.prog 27 = some 64 := by kernel_rfl
theorem agT27 : aggT Try.prog 27 = some true := by kernel_rfl
theorem flT27 : fldsOk Try.prog 27 = true := by kernel_rfl
theorem fdT27_0 : fldOf Try.prog 27 0 = some (0, 4, 26) := by kernel_rfl
theorem fdT27_1 : fldOf Try.prog 27 1 = some (4, 4, 26) := by kernel_rfl
theorem zoT27 : zOf Try.prog 27 = some [.int .u64 0, .int .u64 0, .int .u64 0, .int .u64 0, .int .u64 0, .int .u64 0, .int .u64 0, .int .u64 0] := by kernel_rfl
theorem szT28 : szOf Try.prog 28 = some 8 := by kernel_rfl
theorem byT28 : byOf Try.prog 28 = some 64 := by kernel_rfl
theorem agT28 : aggT Try.prog 28 = some true := by kernel_rfl
theorem flT28 : fldsOk Try.prog 28 = true := by kernel_rfl
theorem fdT28_0 : fldOf Try.prog 28 0 = some (0, 4, 26) := by kernel_rfl
theorem fdT28_1 : fldOf Try.prog 28 1 = some (4, 4, 26) := by kernel_rfl
theorem zoT28 : zOf Try.prog 28 = some [.int .u64 0, .int .u64 0, .int .u64 0, .int .u64 0, .int .u64 0, .int .u64 0, .int .u64 0, .int .u64 0] := by kernel_rfl
theorem szT35 : szOf Try.prog 35 = some 1 := by kernel_rfl
theorem byT35 : byOf Try.prog 35 = some 24 := by kernel_rfl
theorem agT35 : aggT Try.prog 35 = some false := by kernel_rfl
theorem elT35 : elOf Try.prog 35 = some 158 := by kernel_rfl
theorem unT35 : Try.prog.underlying 35 = some (.slice 158) := Try.underlying35
theorem zoT35 : zOf Try.prog 35 = some [.nsl] := by kernel_rfl
theorem szT36 : szOf Try.prog 36 = some 1 := by kernel_rfl
theorem byT36 : byOf Try.prog 36 = some 24 := by kernel_rfl
theorem agT36 : aggT Try.prog 36 = some true := by kernel_rfl
theorem flT36 : fldsOk Try.prog 36 = true := by kernel_rfl
theorem fdT36_0 : fldOf Try.prog 36 0 = some (0, 1, 35) := by kernel_rfl
theorem zoT36 : zOf Try.prog 36 = some [.nsl] := by kernel_rfl
theorem szT37 : szOf Try.prog 37 = some 1 := by kernel_rfl
theorem byT37 : byOf Try.prog 37 = some 24 := by kernel_rfl
theorem agT37 : aggT Try.prog 37 = some true := by kernel_rfl
theorem flT37 : fldsOk Try.prog 37 = true := by kernel_rfl
theorem fdT37_0 : fldOf Try.prog 37 0 = some (0, 1, 35) := by kernel_rfl
theorem zoT37 : zOf Try.prog 37 = some [.nsl] := by kernel_rfl
theorem szT39 : szOf Try.prog 39 = some 1 := by kernel_rfl
theorem byT39 : byOf Try.prog 39 = some 24 := by kernel_rfl
theorem agT39 : aggT Try.prog 39 = some false := by kernel_rfl
theorem elT39 : elOf Try.prog 39 = some 104 := by kernel_rfl
theorem unT39 : Try.prog.underlying 39 = some (.slice 104) := Try.underlying39
theorem zoT39 : zOf Try.prog 39 = some [.nsl] := by kernel_rfl
theorem szT41 : szOf Try.prog 41 = some 1 := by kernel_rfl
theorem byT41 : byOf Try.prog 41 = some 24 := by kernel_rfl
theorem agT41 : aggT Try.prog 41 = some false := by kernel_rfl
theorem elT41 : elOf Try.prog 41 = some 102 := by kernel_rfl
theorem unT41 : Try.prog.underlying 41 = some (.slice 102) := Try.underlying41
theorem zoT41 : zOf Try.prog 41 = some [.nsl] := by kernel_rfl
theorem szT42 : szOf Try.prog 42 = some 1 := by kernel_rfl
theorem byT42 : byOf Try.prog 42 = some 24 := by kernel_rfl
theorem agT42 : aggT Try.prog 42 = some true := by kernel_rfl
theorem flT42 : fldsOk Try.prog 42 = true := by kernel_rfl
theorem fdT42_0 : fldOf Try.prog 42 0 = some (0, 1, 41) := by kernel_rfl
theorem zoT42 : zOf Try.prog 42 = some [.nsl] := by kernel_rfl
theorem szT43 : szOf Try.prog 43 = some 1 := by kernel_rfl
theorem byT43 : byOf Try.prog 43 = some 24 := by kernel_rfl
theorem agT43 : aggT Try.prog 43 = some true := by kernel_rfl
theorem flT43 : fldsOk Try.prog 43 = true := by kernel_rfl
theorem fdT43_0 : fldOf Try.prog 43 0 = some (0, 1, 41) := by kernel_rfl
theorem zoT43 : zOf Try.prog 43 = some [.nsl] := by kernel_rfl
theorem szT50 : szOf Try.prog 50 = some 12 := by kernel_rfl
theorem byT50 : byOf Try.prog 50 = some 96 := by kernel_rfl
theorem agT50 : aggT Try.prog 50 = some true := by kernel_rfl
theorem flT50 : fldsOk Try.prog 50 = true := by kernel_rfl
theorem fdT50_0 : fldOf Try.prog 50 0 = some (0, 4, 26) := by kernel_rfl
theorem fdT50_1 : fldOf Try.prog 50 1 = some (4, 4, 26) := by kernel_rfl
theorem fdT50_2 : fldOf Try.prog 50 2 = some (8, 4, 26) := by kernel_rfl
theorem zoT50 : zOf Try.prog 50 = some [.int .u64 0, .int .u64 0, .int .u64 0, .int .u64 0, .int .u64 0, .int .u64 0, .int .u64 0, .int .u64 0, .int .u64 0, .int .u64 0, .int .u64 0, .int .u64 0] := by kernel_rfl
theorem szT51 : szOf Try.prog 51 = some 12 := by kernel_rfl
theorem byT51 : byOf Try.prog 51 = some 96 := by kernel_rfl
theorem agT51 : aggT Try.prog 51 = some true := by kernel_rfl
theorem flT51 : fldsOk Try.prog 51 = true := by kernel_rfl
theorem fdT51_0 : fldOf Try.prog 51 0 = some (0, 4, 26) := by kernel_rfl
theorem fdT51_1 : fldOf Try.prog 51 1 = some (4, 4, 26) := by kernel_rfl
theorem fdT51_2 : fldOf Try.prog 51 2 = some (8, 4, 26) := by kernel_rfl
theorem zoT51 : zOf Try.prog 51 = some [.int .u64 0, .int .u64 0, .int .u64 0, .int .u64 0, .int .u64 0, .int .u64 0, .int .u64 0, .int .u64 0, .int .u64 0, .int .u64 0, .int .u64 0, .int .u64 0] := by kernel_rfl
theorem szT57 : szOf Try.prog 57 = some 1 := by kernel_rfl
theorem byT57 : byOf Try.prog 57 = some 24 := by kernel_rfl
theorem agT57 : aggT Try.prog 57 = some false := by kernel_rfl
theorem elT57 : elOf Try.prog 57 = some 37 := by kernel_rfl
theorem unT57 : Try.prog.underlying 57 = some (.slice 37) := Try.underlying57
theorem zoT57 : zOf Try.prog 57 = some [.nsl] := by kernel_rfl
theorem szT61 : szOf Try.prog 61 = some 1 := by kernel_rfl
theorem byT61 : byOf Try.prog 61 = some 24 := by kernel_rfl
theorem agT61 : aggT Try.prog 61 = some false := by kernel_rfl
theorem elT61 : elOf Try.prog 61 = some 43 := by kernel_rfl
theorem unT61 : Try.prog.underlying 61 = some (.slice 43) := Try.underlying61
theorem zoT61 : zOf Try.prog 61 = some [.nsl] := by kernel_rfl
theorem szT69 : szOf Try.prog 69 = some 1 := by kernel_rfl
theorem byT69 : byOf Try.prog 69 = some 8 := by kernel_rfl
theorem agT69 : aggT Try.prog 69 = some false := by kernel_rfl
theorem unT69 : Try.prog.underlying 69 = some (.pointer 134) := Try.underlying69
theorem zoT69 : zOf Try.prog 69 = some [.nil] := by kernel_rfl
theorem szT78 : szOf Try.prog 78 = some 1 := by kernel_rfl
theorem byT78 : byOf Try.prog 78 = some 24 := by kernel_rfl
theorem agT78 : aggT Try.prog 78 = some false := by kernel_rfl
theorem elT78 : elOf Try.prog 78 = some 148 := by kernel_rfl
theorem unT78 : Try.prog.underlying 78 = some (.slice 148) := Try.underlying78
theorem zoT78 : zOf Try.prog 78 = some [.nsl] := by kernel_rfl
theorem szT79 : szOf Try.prog 79 = some 2 := by kernel_rfl
theorem byT79 : byOf Try.prog 79 = some 32 := by kernel_rfl
theorem agT79 : aggT Try.prog 79 = some true := by kernel_rfl
theorem flT79 : fldsOk Try.prog 79 = true := by kernel_rfl
theorem fdT79_0 : fldOf Try.prog 79 0 = some (0, 1, 4) := by kernel_rfl
theorem fdT79_1 : fldOf Try.prog 79 1 = some (1, 1, 78) := by kernel_rfl
theorem zoT79 : zOf Try.prog 79 = some [.bool false, .nsl] := by kernel_rfl
theorem szT80 : szOf Try.prog 80 = some 2 := by kernel_rfl
theorem byT80 : byOf Try.prog 80 = some 32 := by kernel_rfl
theorem agT80 : aggT Try.prog 80 = some true := by kernel_rfl
theorem flT80 : fldsOk Try.prog 80 = true := by kernel_rfl
theorem fdT80_0 : fldOf Try.prog 80 0 = some (0, 1, 4) := by kernel_rfl
theorem fdT80_1 : fldOf Try.prog 80 1 = some (1, 1, 78) := by kernel_rfl
theorem zoT80 : zOf Try.prog 80 = some [.bool false, .nsl] := by kernel_rfl
theorem szT81 : szOf Try.prog 81 = some 4 := by kernel_rfl
theorem byT81 : byOf Try.prog 81 = some 64 := by kernel_rfl
theorem agT81 : aggT Try.prog 81 = some true := by kernel_rfl
theorem flT81 : fldsOk Try.prog 81 = true := by kernel_rfl
theorem fdT81_0 : fldOf Try.prog 81 0 = some (0, 2, 80) := by kernel_rfl
theorem fdT81_1 : fldOf Try.prog 81 1 = some (2, 2, 80) := by kernel_rfl
theorem zoT81 : zOf Try.prog 81 = some [.bool false, .nsl, .bool false, .nsl] := by kernel_rfl
theorem szT82 : szOf Try.prog 82 = some 4 := by kernel_rfl
theorem byT82 : byOf Try.prog 82 = some 64 := by kernel_rfl
theorem agT82 : aggT Try.prog 82 = some true := by kernel_rfl
theorem flT82 : fldsOk Try.prog 82 = true := by kernel_rfl
theorem fdT82_0 : fldOf Try.prog 82 0 = some (0, 2, 80) := by kernel_rfl
theorem fdT82_1 : fldOf Try.prog 82 1 = some (2, 2, 80) := by kernel_rfl
theorem zoT82 : zOf Try.prog 82 = some [.bool false, .nsl, .bool false, .nsl] := by kernel_rfl
theorem szT87 : szOf Try.prog 87 = some 1 := by kernel_rfl
theorem byT87 : byOf Try.prog 87 = some 24 := by kernel_rfl
theorem agT87 : aggT Try.prog 87 = some false := by kernel_rfl
theorem elT87 : elOf Try.prog 87 = some 24 := by kernel_rfl
theorem unT87 : Try.prog.underlying 87 = some (.slice 24) := Try.underlying87
theorem zoT87 : zOf Try.prog 87 = some [.nsl] := by kernel_rfl
theorem szT88 : szOf Try.prog 88 = some 2 := by kernel_rfl
theorem byT88 : byOf Try.prog 88 = some 32 := by kernel_rfl
theorem agT88 : aggT Try.prog 88 = some true := by kernel_rfl
theorem flT88 : fldsOk Try.prog 88 = true := by kernel_rfl
theorem fdT88_0 : fldOf Try.prog 88 0 = some (0, 1, 4) := by kernel_rfl
theorem fdT88_1 : fldOf Try.prog 88 1 = some (1, 1, 87) := by kernel_rfl
theorem zoT88 : zOf Try.prog 88 = some [.bool false, .nsl] := by kernel_rfl
theorem szT89 : szOf Try.prog 89 = some 2 := by kernel_rfl
theorem byT89 : byOf Try.prog 89 = some 32 := by kernel_rfl
theorem agT89 : aggT Try.prog 89 = some true := by kernel_rfl
theorem flT89 : fldsOk Try.prog 89 = true := by kernel_rfl
theorem fdT89_0 : fldOf Try.prog 89 0 = some (0, 1, 4) := by kernel_rfl
theorem fdT89_1 : fldOf Try.prog 89 1 = some (1, 1, 87) := by kernel_rfl
theorem zoT89 : zOf Try.prog 89 = some [.bool false, .nsl] := by kernel_rfl
theorem szT90 : szOf Try.prog 90 = some 4 := by kernel_rfl
theorem byT90 : byOf Try.prog 90 = some 64 := by kernel_rfl
theorem agT90 : aggT Try.prog 90 = some true := by kernel_rfl
theorem flT90 : fldsOk Try.prog 90 = true := by kernel_rfl
theorem fdT90_0 : fldOf Try.prog 90 0 = some (0, 2, 89) := by kernel_rfl
theorem fdT90_1 : fldOf Try.prog 90 1 = some (2, 2, 89) := by kernel_rfl
theorem zoT90 : zOf Try.prog 90 = some [.bool false, .nsl, .bool false, .nsl] := by kernel_rfl
theorem szT91 : szOf Try.prog 91 = some 4 := by kernel_rfl
theorem byT91 : byOf Try.prog 91 = some 64 := by kernel_rfl
theorem agT91 : aggT Try.prog 91 = some true := by kernel_rfl
theorem flT91 : fldsOk Try.prog 91 = true := by kernel_rfl
theorem fdT91_0 : fldOf Try.prog 91 0 = some (0, 2, 89) := by kernel_rfl
theorem fdT91_1 : fldOf Try.prog 91 1 = some (2, 2, 89) := by kernel_rfl
theorem zoT91 : zOf Try.prog 91 = some [.bool false, .nsl, .bool false, .nsl] := by kernel_rfl
theorem szT98 : szOf Try.prog 98 = some 1 := by kernel_rfl
theorem byT98 : byOf Try.prog 98 = some 24 := by kernel_rfl
theorem agT98 : aggT Try.prog 98 = some false := by kernel_rfl
theorem elT98 : elOf Try.prog 98 = some 9 := by kernel_rfl
theorem unT98 : Try.prog.underlying 98 = some (.slice 9) := Try.underlying98
theorem zoT98 : zOf Try.prog 98 = some [.nsl] := by kernel_rfl
theorem szT101 : szOf Try.prog 101 = some 2 := by kernel_rfl
theorem byT101 : byOf Try.prog 101 = some 16 := by kernel_rfl
theorem agT101 : aggT Try.prog 101 = some true := by kernel_rfl
theorem flT101 : fldsOk Try.prog 101 = true := by kernel_rfl
theorem fdT101_0 : fldOf Try.prog 101 0 = some (0, 1, 2) := by kernel_rfl
theorem fdT101_1 : fldOf Try.prog 101 1 = some (1, 1, 2) := by kernel_rfl
theorem zoT101 : zOf Try.prog 101 = some [.int .i64 0, .int .i64 0] := by kernel_rfl
theorem szT102 : szOf Try.prog 102 = some 2 := by kernel_rfl
theorem byT102 : byOf Try.prog 102 = some 16 := by kernel_rfl
theorem agT102 : aggT Try.prog 102 = some true := by kernel_rfl
theorem flT102 : fldsOk Try.prog 102 = true := by kernel_rfl
theorem fdT102_0 : fldOf Try.prog 102 0 = some (0, 1, 2) := by kernel_rfl
theorem fdT102_1 : fldOf Try.prog 102 1 = some (1, 1, 2) := by kernel_rfl
theorem zoT102 : zOf Try.prog 102 = some [.int .i64 0, .int .i64 0] := by kernel_rfl
theorem szT103 : szOf Try.prog 103 = some 4 := by kernel_rfl
theorem byT103 : byOf Try.prog 103 = some 32 := by kernel_rfl
theorem agT103 : aggT Try.prog 103 = some true := by kernel_rfl
theorem flT103 : fldsOk Try.prog 103 = true := by kernel_rfl
theorem fdT103_0 : fldOf Try.prog 103 0 = some (0, 2, 102) := by kernel_rfl
theorem fdT103_1 : fldOf Try.prog 103 1 = some (2, 2, 102) := by kernel_rfl
theorem zoT103 : zOf Try.prog 103 = some [.int .i64 0, .int .i64 0, .int .i64 0, .int .i64 0] := by kernel_rfl
theorem szT104 : szOf Try.prog 104 = some 4 := by kernel_rfl
theorem byT104 : byOf Try.prog 104 = some 32 := by kernel_rfl
theorem agT104 : aggT Try.prog 104 = some true := by kernel_rfl
theorem flT104 : fldsOk Try.prog 104 = true := by kernel_rfl
theorem fdT104_0 : fldOf Try.prog 104 0 = some (0, 2, 102) := by kernel_rfl
theorem fdT104_1 : fldOf Try.prog 104 1 = some (2, 2, 102) := by kernel_rfl
theorem zoT104 : zOf Try.prog 104 = some [.int .i64 0, .int .i64 0, .int .i64 0, .int .i64 0] := by kernel_rfl
theorem szT112 : szOf Try.prog 112 = some 6 := by kernel_rfl
theorem byT112 : byOf Try.prog 112 = some 96 := by kernel_rfl
theorem agT112 : aggT Try.prog 112 = some true := by kernel_rfl
theorem flT112 : fldsOk Try.prog 112 = true := by kernel_rfl
theorem fdT112_0 : fldOf Try.prog 112 0 = some (0, 2, 80) := by kernel_rfl
theorem fdT112_1 : fldOf Try.prog 112 1 = some (2, 2, 80) := by kernel_rfl
theorem fdT112_2 : fldOf Try.prog 112 2 = some (4, 2, 80) := by kernel_rfl
theorem zoT112 : zOf Try.prog 112 = some [.bool false, .nsl, .bool false, .nsl, .bool false, .nsl] := by kernel_rfl
theorem szT113 : szOf Try.prog 113 = some 6 := by kernel_rfl
theorem byT113 : byOf Try.prog 113 = some 96 := by kernel_rfl
theorem agT113 : aggT Try.prog 113 = some true := by kernel_rfl
theorem flT113 : fldsOk Try.prog 113 = true := by kernel_rfl
theorem fdT113_0 : fldOf Try.prog 113 0 = some (0, 2, 80) := by kernel_rfl
theorem fdT113_1 : fldOf Try.prog 113 1 = some (2, 2, 80) := by kernel_rfl
theorem fdT113_2 : fldOf Try.prog 113 2 = some (4, 2, 80) := by kernel_rfl
theorem zoT113 : zOf Try.prog 113 = some [.bool false, .nsl, .bool false, .nsl, .bool false, .nsl] := by kernel_rfl
theorem szT115 : szOf Try.prog 115 = some 6 := by kernel_rfl
theorem byT115 : byOf Try.prog 115 = some 96 := by kernel_rfl
theorem agT115 : aggT Try.prog 115 = some true := by kernel_rfl
theorem flT115 : fldsOk Try.prog 115 = true := by kernel_rfl
theorem fdT115_0 : fldOf Try.prog 115 0 = some (0, 2, 89) := by kernel_rfl
theorem fdT115_1 : fldOf Try.prog 115 1 = some (2, 2, 89) := by kernel_rfl
theorem fdT115_2 : fldOf Try.prog 115 2 = some (4, 2, 89) := by kernel_rfl
theorem zoT115 : zOf Try.prog 115 = some [.bool false, .nsl, .bool false, .nsl, .bool false, .nsl] := by kernel_rfl
theorem szT116 : szOf Try.prog 116 = some 6 := by kernel_rfl
theorem byT116 : byOf Try.prog 116 = some 96 := by kernel_rfl
theorem agT116 : aggT Try.prog 116 = some true := by kernel_rfl
theorem flT116 : fldsOk Try.prog 116 = true := by kernel_rfl
theorem fdT116_0 : fldOf Try.prog 116 0 = some (0, 2, 89) := by kernel_rfl
theorem fdT116_1 : fldOf Try.prog 116 1 = some (2, 2, 89) := by kernel_rfl
theorem fdT116_2 : fldOf Try.prog 116 2 = some (4, 2, 89) := by kernel_rfl
theorem zoT116 : zOf Try.prog 116 = some [.bool false, .nsl, .bool false, .nsl, .bool false, .nsl] := by kernel_rfl
theorem szT133 : szOf Try.prog 133 = some 2 := by kernel_rfl
theorem byT133 : byOf Try.prog 133 = some 32 := by kernel_rfl
theorem agT133 : aggT Try.prog 133 = some true := by kernel_rfl
theorem flT133 : fldsOk Try.prog 133 = true := by kernel_rfl
theorem fdT133_0 : fldOf Try.prog 133 0 = some (0, 1, 22) := by kernel_rfl
theorem fdT133_1 : fldOf Try.prog 133 1 = some (1, 1, 3) := by kernel_rfl
theorem zoT133 : zOf Try.prog 133 = some [.nsl, .int .i64 0] := by kernel_rfl
theorem szT134 : szOf Try.prog 134 = some 2 := by kernel_rfl
theorem byT134 : byOf Try.prog 134 = some 32 := by kernel_rfl
theorem agT134 : aggT Try.prog 134 = some true := by kernel_rfl
theorem flT134 : fldsOk Try.prog 134 = true := by kernel_rfl
theorem fdT134_0 : fldOf Try.prog 134 0 = some (0, 1, 22) := by kernel_rfl
theorem fdT134_1 : fldOf Try.prog 134 1 = some (1, 1, 3) := by kernel_rfl
theorem zoT134 : zOf Try.prog 134 = some [.nsl, .int .i64 0] := by kernel_rfl
theorem szT148 : szOf Try.prog 148 = some 1 := by kernel_rfl
theorem byT148 : byOf Try.prog 148 = some 4 := by kernel_rfl
theorem agT148 : aggT Try.prog 148 = some false := by kernel_rfl
theorem unT148 : Try.prog.underlying 148 = some (.int .u32) := Try.underlying148
theorem zoT148 : zOf Try.prog 148 = some [.int .u32 0] := by kernel_rfl
theorem szT149 : szOf Try.prog 149 = some 1 := by kernel_rfl
theorem byT149 : byOf Try.prog 149 = some 8 := by kernel_rfl
theorem agT149 : aggT Try.prog 149 = some false := by kernel_rfl
theorem unT149 : Try.prog.underlying 149 = some (.int .u64) := Try.underlying149
theorem zoT149 : zOf Try.prog 149 = some [.int .u64 0] := by kernel_rfl
theorem szT150 : szOf Try.prog 150 = some 1 := by kernel_rfl
theorem byT150 : byOf Try.prog 150 = some 24 := by kernel_rfl
theorem agT150 : aggT Try.prog 150 = some false := by kernel_rfl
theorem elT150 : elOf Try.prog 150 = some 89 := by kernel_rfl
theorem unT150 : Try.prog.underlying 150 = some (.slice 89) := Try.underlying150
theorem zoT150 : zOf Try.prog 150 = some [.nsl] := by kernel_rfl
theorem szT158 : szOf Try.prog 158 = some 2 := by kernel_rfl
theorem byT158 : byOf Try.prog 158 = some 16 := by kernel_rfl
theorem agT158 : aggT Try.prog 158 = some true := by kernel_rfl
theorem flT158 : fldsOk Try.prog 158 = true := by kernel_rfl
theorem fdT158_0 : fldOf Try.prog 158 0 = some (0, 1, 2) := by kernel_rfl
theorem fdT158_1 : fldOf Try.prog 158 1 = some (1, 1, 2) := by kernel_rfl
theorem zoT158 : zOf Try.prog 158 = some [.int .i64 0, .int .i64 0] := by kernel_rfl
theorem szT175 : szOf Try.prog 175 = some 1 := by kernel_rfl
theorem byT175 : byOf Try.prog 175 = some 24 := by kernel_rfl
theorem agT175 : aggT Try.prog 175 = some false := by kernel_rfl
theorem elT175 : elOf Try.prog 175 = some 41 := by kernel_rfl
theorem unT175 : Try.prog.underlying 175 = some (.slice 41) := Try.underlying175
theorem zoT175 : zOf Try.prog 175 = some [.nsl] := by kernel_rfl
theorem szT179 : szOf Try.prog 179 = some 1 := by kernel_rfl
theorem byT179 : byOf Try.prog 179 = some 24 := by kernel_rfl
theorem agT179 : aggT Try.prog 179 = some false := by kernel_rfl
theorem elT179 : elOf Try.prog 179 = some 2 := by kernel_rfl
theorem unT179 : Try.prog.underlying 179 = some (.slice 2) := Try.underlying179
theorem zoT179 : zOf Try.prog 179 = some [.nsl] := by kernel_rfl
theorem szT180 : szOf Try.prog 180 = some 1 := by kernel_rfl
theorem byT180 : byOf Try.prog 180 = some 24 := by kernel_rfl
theorem agT180 : aggT Try.prog 180 = some false := by kernel_rfl
theorem elT180 : elOf Try.prog 180 = some 26 := by kernel_rfl
theorem unT180 : Try.prog.underlying 180 = some (.slice 26) := Try.underlying180
theorem zoT180 : zOf Try.prog 180 = some [.nsl] := by kernel_rfl
theorem szT216 : szOf Try.prog 216 = some 1 := by kernel_rfl
theorem byT216 : byOf Try.prog 216 = some 8 := by kernel_rfl
theorem agT216 : aggT Try.prog 216 = some false := by kernel_rfl
theorem unT216 : Try.prog.underlying 216 = some (.pointer 231) := Try.underlying216
theorem zoT216 : zOf Try.prog 216 = some [.nil] := by kernel_rfl
theorem szT217 : szOf Try.prog 217 = some 4 := by kernel_rfl
theorem byT217 : byOf Try.prog 217 = some 40 := by kernel_rfl
theorem agT217 : aggT Try.prog 217 = some true := by kernel_rfl
theorem flT217 : fldsOk Try.prog 217 = true := by kernel_rfl
theorem fdT217_0 : fldOf Try.prog 217 0 = some (0, 1, 17) := by kernel_rfl
theorem fdT217_1 : fldOf Try.prog 217 1 = some (1, 1, 17) := by kernel_rfl
theorem fdT217_2 : fldOf Try.prog 217 2 = some (2, 1, 17) := by kernel_rfl
theorem fdT217_3 : fldOf Try.prog 217 3 = some (3, 1, 9) := by kernel_rfl
theorem zoT217 : zOf Try.prog 217 = some [.nil, .nil, .nil, .str ⟨#[]⟩] := by kernel_rfl
theorem szT218 : szOf Try.prog 218 = some 4 := by kernel_rfl
theorem byT218 : byOf Try.prog 218 = some 40 := by kernel_rfl
theorem agT218 : aggT Try.prog 218 = some true := by kernel_rfl
theorem flT218 : fldsOk Try.prog 218 = true := by kernel_rfl
theorem fdT218_0 : fldOf Try.prog 218 0 = some (0, 1, 17) := by kernel_rfl
theorem fdT218_1 : fldOf Try.prog 218 1 = some (1, 1, 17) := by kernel_rfl
theorem fdT218_2 : fldOf Try.prog 218 2 = some (2, 1, 17) := by kernel_rfl
theorem fdT218_3 : fldOf Try.prog 218 3 = some (3, 1, 9) := by kernel_rfl
theorem zoT218 : zOf Try.prog 218 = some [.nil, .nil, .nil, .str ⟨#[]⟩] := by kernel_rfl
theorem szT220 : szOf Try.prog 220 = some 0 := by kernel_rfl
theorem byT220 : byOf Try.prog 220 = some 0 := by kernel_rfl
theorem agT220 : aggT Try.prog 220 = some true := by kernel_rfl
theorem flT220 : fldsOk Try.prog 220 = true := by kernel_rfl
theorem fdT220_0 : fldOf Try.prog 220 0 = some (0, 0, 219) := by kernel_rfl
theorem zoT220 : zOf Try.prog 220 = some [] := by kernel_rfl
theorem szT221 : szOf Try.prog 221 = some 0 := by kernel_rfl
theorem byT221 : byOf Try.prog 221 = some 0 := by kernel_rfl
theorem agT221 : aggT Try.prog 221 = some true := by kernel_rfl
theorem flT221 : fldsOk Try.prog 221 = true := by kernel_rfl
theorem fdT221_0 : fldOf Try.prog 221 0 = some (0, 0, 219) := by kernel_rfl
theorem zoT221 : zOf Try.prog 221 = some [] := by kernel_rfl
theorem szT222 : szOf Try.prog 222 = some 1 := by kernel_rfl
theorem byT222 : byOf Try.prog 222 = some 1 := by kernel_rfl
theorem agT222 : aggT Try.prog 222 = some false := by kernel_rfl
theorem unT222 : Try.prog.underlying 222 = some (.int .u8) := Try.underlying222
theorem zoT222 : zOf Try.prog 222 = some [.int .u8 0] := by kernel_rfl
theorem szT223 : szOf Try.prog 223 = some 1 := by kernel_rfl
theorem byT223 : byOf Try.prog 223 = some 1 := by kernel_rfl
theorem agT223 : aggT Try.prog 223 = some false := by kernel_rfl
theorem unT223 : Try.prog.underlying 223 = some (.int .u8) := Try.underlying223
theorem zoT223 : zOf Try.prog 223 = some [.int .u8 0] := by kernel_rfl
theorem szT225 : szOf Try.prog 225 = some 1 := by kernel_rfl
theorem byT225 : byOf Try.prog 225 = some 8 := by kernel_rfl
theorem agT225 : aggT Try.prog 225 = some false := by kernel_rfl
theorem unT225 : Try.prog.underlying 225 = some (.pointer 5) := Try.underlying225
theorem zoT225 : zOf Try.prog 225 = some [.nil] := by kernel_rfl
theorem szT226 : szOf Try.prog 226 = some 1 := by kernel_rfl
theorem byT226 : byOf Try.prog 226 = some 4 := by kernel_rfl
theorem agT226 : aggT Try.prog 226 = some false := by kernel_rfl
theorem unT226 : Try.prog.underlying 226 = some (.int .i32) := Try.underlying226
theorem zoT226 : zOf Try.prog 226 = some [.int .i32 0] := by kernel_rfl
theorem szT227 : szOf Try.prog 227 = some 1 := by kernel_rfl
theorem byT227 : byOf Try.prog 227 = some 4 := by kernel_rfl
theorem agT227 : aggT Try.prog 227 = some false := by kernel_rfl
theorem unT227 : Try.prog.underlying 227 = some (.int .i32) := Try.underlying227
theorem zoT227 : zOf Try.prog 227 = some [.int .i32 0] := by kernel_rfl
theorem szT230 : szOf Try.prog 230 = some 1 := by kernel_rfl
theorem byT230 : byOf Try.prog 230 = some 16 := by kernel_rfl
theorem agT230 : aggT Try.prog 230 = some true := by kernel_rfl
theorem flT230 : fldsOk Try.prog 230 = true := by kernel_rfl
theorem fdT230_0 : fldOf Try.prog 230 0 = some (0, 1, 9) := by kernel_rfl
theorem zoT230 : zOf Try.prog 230 = some [.str ⟨#[]⟩] := by kernel_rfl
theorem szT231 : szOf Try.prog 231 = some 1 := by kernel_rfl
theorem byT231 : byOf Try.prog 231 = some 16 := by kernel_rfl
theorem agT231 : aggT Try.prog 231 = some true := by kernel_rfl
theorem flT231 : fldsOk Try.prog 231 = true := by kernel_rfl
theorem fdT231_0 : fldOf Try.prog 231 0 = some (0, 1, 9) := by kernel_rfl
theorem zoT231 : zOf Try.prog 231 = some [.str ⟨#[]⟩] := by kernel_rfl
theorem hb2 : hasBody Try.prog 2 = true := by kernel_rfl
theorem hb3 : hasBody Try.prog 3 = true := by kernel_rfl
theorem hb4 : hasBody Try.prog 4 = true := by kernel_rfl
theorem hb5 : hasBody Try.prog 5 = true := by kernel_rfl
theorem hb6 : hasBody Try.prog 6 = true := by kernel_rfl
theorem hb7 : hasBody Try.prog 7 = true := by kernel_rfl
theorem hb8 : hasBody Try.prog 8 = true := by kernel_rfl
theorem hb9 : hasBody Try.prog 9 = true := by kernel_rfl
theorem hb10 : hasBody Try.prog 10 = true := by kernel_rfl
theorem hb11 : hasBody Try.prog 11 = true := by kernel_rfl
theorem hb12 : hasBody Try.prog 12 = true := by kernel_rfl
theorem hb13 : hasBody Try.prog 13 = true := by kernel_rfl
theorem hb14 : hasBody Try.prog 14 = true := by kernel_rfl
theorem hb15 : hasBody Try.prog 15 = true := by kernel_rfl
theorem hb16 : hasBody Try.prog 16 = true := by kernel_rfl
theorem hb17 : hasBody Try.prog 17 = true := by kernel_rfl
theorem hb18 : hasBody Try.prog 18 = true := by kernel_rfl
theorem hb19 : hasBody Try.prog 19 = true := by kernel_rfl
theorem hb20 : hasBody Try.prog 20 = true := by kernel_rfl
theorem hb21 : hasBody Try.prog 21 = true := by kernel_rfl
theorem hb22 : hasBody Try.prog 22 = true := by kernel_rfl
theorem hb23 : hasBody Try.prog 23 = true := by kernel_rfl
theorem hb24 : hasBody Try.prog 24 = true := by kernel_rfl
theorem hb25 : hasBody Try.prog 25 = true := by kernel_rfl
theorem hb26 : hasBody Try.prog 26 = true := by kernel_rfl
theorem hb27 : hasBody Try.prog 27 = true := by kernel_rfl
theorem hb28 : hasBody Try.prog 28 = true := by kernel_rfl
theorem hb29 : hasBody Try.prog 29 = true := by kernel_rfl
theorem hb30 : hasBody Try.prog 30 = true := by kernel_rfl
theorem hb31 : hasBody Try.prog 31 = true := by kernel_rfl
theorem hb32 : hasBody Try.prog 32 = true := by kernel_rfl
theorem hb33 : hasBody Try.prog 33 = true := by kernel_rfl
theorem hb34 : hasBody Try.prog 34 = true := by kernel_rfl
theorem hb35 : hasBody Try.prog 35 = true := by kernel_rfl
theorem hb36 : hasBody Try.prog 36 = true := by kernel_rfl
theorem hb37 : hasBody Try.prog 37 = true := by kernel_rfl
theorem hb38 : hasBody Try.prog 38 = true := by kernel_rfl
theorem hb39 : hasBody Try.prog 39 = true := by kernel_rfl
theorem hb40 : hasBody Try.prog 40 = true := by kernel_rfl
theorem hb41 : hasBody Try.prog 41 = true := by kernel_rfl
theorem hb42 : hasBody Try.prog 42 = true := by kernel_rfl
theorem hb43 : hasBody Try.prog 43 = true := by kernel_rfl
theorem hb44 : hasBody Try.prog 44 = true := by kernel_rfl
theorem hb45 : hasBody Try.prog 45 = true := by kernel_rfl
theorem hb46 : hasBody Try.prog 46 = true := by kernel_rfl
theorem hb47 : hasBody Try.prog 47 = true := by kernel_rfl
theorem hb48 : hasBody Try.prog 48 = true := by kernel_rfl
theorem hb49 : hasBody Try.prog 49 = true := by kernel_rfl
theorem hb50 : hasBody Try.prog 50 = true := by kernel_rfl
theorem hb51 : hasBody Try.prog 51 = true := by kernel_rfl
theorem hb52 : hasBody Try.prog 52 = true := by kernel_rfl
theorem hb53 : hasBody Try.prog 53 = true := by kernel_rfl
theorem hb54 : hasBody Try.prog 54 = true := by kernel_rfl
theorem hb55 : hasBody Try.prog 55 = true := by kernel_rfl
theorem hb56 : hasBody Try.prog 56 = true := by kernel_rfl
theorem hb57 : hasBody Try.prog 57 = true := by kernel_rfl
theorem hb58 : hasBody Try.prog 58 = true := by kernel_rfl
theorem hb59 : hasBody Try.prog 59 = true := by kernel_rfl
theorem hb60 : hasBody Try.prog 60 = true := by kernel_rfl
theorem hb61 : hasBody Try.prog 61 = true := by kernel_rfl
theorem hb62 : hasBody Try.prog 62 = true := by kernel_rfl
theorem hb63 : hasBody Try.prog 63 = true := by kernel_rfl
theorem hb64 : hasBody Try.prog 64 = true := by kernel_rfl
theorem hb65 : hasBody Try.prog 65 = true := by kernel_rfl
theorem hb66 : hasBody Try.prog 66 = true := by kernel_rfl
theorem hb67 : hasBody Try.prog 67 = true := by kernel_rfl
theorem hb68 : hasBody Try.prog 68 = true := by kernel_rfl
theorem hb69 : hasBody Try.prog 69 = true := by kernel_rfl
theorem hb70 : hasBody Try.prog 70 = true := by kernel_rfl
theorem hb71 : hasBody Try.prog 71 = true := by kernel_rfl
theorem hb72 : hasBody Try.prog 72 = true := by kernel_rfl
theorem hb73 : hasBody Try.prog 73 = true := by kernel_rfl
theorem hb74 : hasBody Try.prog 74 = true := by kernel_rfl
theorem hb75 : hasBody Try.prog 75 = true := by kernel_rfl
theorem hb76 : hasBody Try.prog 76 = true := by kernel_rfl
theorem hb77 : hasBody Try.prog 77 = true := by kernel_rfl
theorem hb78 : hasBody Try.prog 78 = true := by kernel_rfl
theorem hb79 : hasBody Try.prog 79 = true := by kernel_rfl
theorem hb80 : hasBody Try.prog 80 = true := by kernel_rfl
theorem hb81 : hasBody Try.prog 81 = true := by kernel_rfl
theorem hb82 : hasBody Try.prog 82 = true := by kernel_rfl
theorem hb83 : hasBody Try.prog 83 = true := by kernel_rfl
theorem hb84 : hasBody Try.prog 84 = true := by kernel_rfl
theorem hb85 : hasBody Try.prog 85 = true := by kernel_rfl
theorem hb86 : hasBody Try.prog 86 = true := by kernel_rfl
theorem hb87 : hasBody Try.prog 87 = true := by kernel_rfl
theorem hb88 : hasBody Try.prog 88 = true := by kernel_rfl
theorem hb89 : hasBody Try.prog 89 = true := by kernel_rfl
theorem hb90 : hasBody Try.prog 90 = true := by kernel_rfl
theorem hb91 : hasBody Try.prog 91 = true := by kernel_rfl
theorem hb92 : hasBody Try.prog 92 = true := by kernel_rfl
theorem hb93 : hasBody Try.prog 93 = true := by kernel_rfl
theorem hb94 : hasBody Try.prog 94 = true := by kernel_rfl
theorem hb95 : hasBody Try.prog 95 = true := by kernel_rfl
theorem hb96 : hasBody Try.prog 96 = true := by kernel_rfl
theorem hb97 : hasBody Try.prog 97 = true := by kernel_rfl
theorem hb98 : hasBody Try.prog 98 = true := by kernel_rfl
theorem hb99 : hasBody Try.prog 99 = true := by kernel_rfl
theorem hb100 : hasBody Try.prog 100 = true := by kernel_rfl
theorem hb101 : hasBody Try.prog 101 = true := by kernel_rfl
theorem hb102 : hasBody Try.prog 102 = true := by kernel_rfl
theorem hb103 : hasBody Try.prog 103 = true := by kernel_rfl
theorem hb104 : hasBody Try.prog 104 = true := by kernel_rfl
theorem hb105 : hasBody Try.prog 105 = true := by kernel_rfl
theorem hb106 : hasBody Try.prog 106 = true := by kernel_rfl
theorem hb107 : hasBody Try.prog 107 = true := by kernel_rfl
theorem hb108 : hasBody Try.prog 108 = true := by kernel_rfl
theorem hb109 : hasBody Try.prog 109 = true := by kernel_rfl
theorem hb110 : hasBody Try.prog 110 = true := by kernel_rfl
theorem hb111 : hasBody Try.prog 111 = true := by kernel_rfl
theorem hb112 : hasBody Try.prog 112 = true := by kernel_rfl
theorem hb113 : hasBody Try.prog 113 = true := by kernel_rfl
theorem hb114 : hasBody Try.prog 114 = true := by kernel_rfl
theorem hb115 : hasBody Try.prog 115 = true := by kernel_rfl
theorem hb116 : hasBody Try.prog 116 = true := by kernel_rfl
theorem hb117 : hasBody Try.prog 117 = true := by kernel_rfl
theorem hb118 : hasBody Try.prog 118 = true := by kernel_rfl
theorem hb119 : hasBody Try.prog 119 = true := by kernel_rfl
theorem hb120 : hasBody Try.prog 120 = true := by kernel_rfl
theorem hb121 : hasBody Try.prog 121 = true := by kernel_rfl
theorem hb122 : hasBody Try.prog 122 = true := by kernel_rfl
theorem hb123 : hasBody Try.prog 123 = true := by kernel_rfl
theorem hb124 : hasBody Try.prog 124 = true := by kernel_rfl
theorem hb125 : hasBody Try.prog 125 = true := by kernel_rfl
theorem hb126 : hasBody Try.prog 126 = true := by kernel_rfl
theorem hb127 : hasBody Try.prog 127 = true := by kernel_rfl
theorem hb128 : hasBody Try.prog 128 = true := by kernel_rfl
theorem hb129 : hasBody Try.prog 129 = true := by kernel_rfl
theorem hb130 : hasBody Try.prog 130 = true := by kernel_rfl
theorem hb131 : hasBody Try.prog 131 = true := by kernel_rfl
theorem hb132 : hasBody Try.prog 132 = true := by kernel_rfl
theorem hb133 : hasBody Try.prog 133 = true := by kernel_rfl
theorem hb134 : hasBody Try.prog 134 = true := by kernel_rfl
theorem hb135 : hasBody Try.prog 135 = true := by kernel_rfl
theorem hb136 : hasBody Try.prog 136 = true := by kernel_rfl
theorem hb137 : hasBody Try.prog 137 = true := by kernel_rfl
theorem hb138 : hasBody Try.prog 138 = true := by kernel_rfl
theorem hb139 : hasBody Try.prog 139 = true := by kernel_rfl
theorem hb140 : hasBody Try.prog 140 = true := by kernel_rfl
theorem hb141 : hasBody Try.prog 141 = true := by kernel_rfl
theorem hb142 : hasBody Try.prog 142 = true := by kernel_rfl
theorem hb143 : hasBody Try.prog 143 = true := by kernel_rfl
theorem hb144 : hasBody Try.prog 144 = true := by kernel_rfl
theorem hb145 : hasBody Try.prog 145 = true := by kernel_rfl
theorem hb146 : hasBody Try.prog 146 = true := by kernel_rfl
theorem hb147 : hasBody Try.prog 147 = true := by kernel_rfl
theorem hb148 : hasBody Try.prog 148 = true := by kernel_rfl
theorem hb149 : hasBody Try.prog 149 = true := by kernel_rfl
theorem hb150 : hasBody Try.prog 150 = true := by kernel_rfl
theorem hb151 : hasBody Try.prog 151 = true := by kernel_rfl
theorem hb152 : hasBody Try.prog 152 = true := by kernel_rfl
theorem hb153 : hasBody Try.prog 153 = true := by kernel_rfl
theorem hb154 : hasBody Try.prog 154 = true := by kernel_rfl
theorem hb155 : hasBody Try.prog 155 = true := by kernel_rfl
theorem hb156 : hasBody Try.prog 156 = true := by kernel_rfl
theorem hb157 : hasBody Try.prog 157 = true := by kernel_rfl
theorem hb158 : hasBody Try.prog 158 = true := by kernel_rfl
theorem hb159 : hasBody Try.prog 159 = true := by kernel_rfl
theorem hb160 : hasBody Try.prog 160 = true := by kernel_rfl
theorem hb161 : hasBody Try.prog 161 = true := by kernel_rfl
theorem hb162 : hasBody Try.prog 162 = true := by kernel_rfl
theorem hb163 : hasBody Try.prog 163 = true := by kernel_rfl
theorem hb164 : hasBody Try.prog 164 = true := by kernel_rfl
theorem hb165 : hasBody Try.prog 165 = true := by kernel_rfl
theorem hb168 : hasBody Try.prog 168 = true := by kernel_rfl
theorem hb169 : hasBody Try.prog 169 = true := by kernel_rfl
theorem hb170 : hasBody Try.prog 170 = true := by kernel_rfl
theorem hb171 : hasBody Try.prog 171 = true := by kernel_rfl
theorem hb172 : hasBody Try.prog 172 = true := by kernel_rfl
theorem hb173 : hasBody Try.prog 173 = true := by kernel_rfl
theorem hb174 : hasBody Try.prog 174 = true := by kernel_rfl
theorem hb175 : hasBody Try.prog 175 = true := by kernel_rfl
theorem hb176 : hasBody Try.prog 176 = true := by kernel_rfl
theorem hb177 : hasBody Try.prog 177 = true := by kernel_rfl
theorem hb178 : hasBody Try.prog 178 = true := by kernel_rfl
theorem hb179 : hasBody Try.prog 179 = true := by kernel_rfl
theorem hb180 : hasBody Try.prog 180 = true := by kernel_rfl
theorem hb181 : hasBody Try.prog 181 = true := by kernel_rfl
theorem hb183 : hasBody Try.prog 183 = true := by kernel_rfl
theorem hb184 : hasBody Try.prog 184 = true := by kernel_rfl
theorem hb185 : hasBody Try.prog 185 = true := by kernel_rfl
theorem hb186 : hasBody Try.prog 186 = true := by kernel_rfl
theorem hb187 : hasBody Try.prog 187 = true := by kernel_rfl
theorem hb188 : hasBody Try.prog 188 = true := by kernel_rfl
theorem hb189 : hasBody Try.prog 189 = true := by kernel_rfl
theorem hb190 : hasBody Try.prog 190 = true := by kernel_rfl
theorem hb192 : hasBody Try.prog 192 = true := by kernel_rfl
theorem hb193 : hasBody Try.prog 193 = true := by kernel_rfl
theorem hb194 : hasBody Try.prog 194 = true := by kernel_rfl
theorem nb166 : Bodyless Try.prog 166 add64Entry := ⟨Try.f166, Try.func166, by kernel_rfl, by kernel_rfl, by kernel_rfl, by kernel_rfl⟩
theorem nb167 : Bodyless Try.prog 167 sub64Entry := ⟨Try.f167, Try.func167, by kernel_rfl, by kernel_rfl, by kernel_rfl, by kernel_rfl⟩
theorem mixT : Try.prog.follows .mixedOrders = true := Try.checked.mixed
attribute [simp] idf_Wd' List.getElem?_cons_zero List.getElem?_cons_succ List.getElem?_toArray runOps stepOp.eq_def agd.eq_def dstOk.eq_def opVal.eq_def opNew.eq_def opSto.eq_def ev.eq_def cv.eq_def puts_some puts_none upd_ap lst.eq_def aBin.eq_def aUn.eq_def aBi_str aBi_isl aBi_osl aBi_nsl aBi_cap aBi_max aBi_min aBi_max3 aConv.eq_def aLd.eq_def aLoad.eq_def aField.eq_def aFld.eq_def aIdx_isl aIdx_osl aSlc_isl aSlc_osl aSlc_str aSlc_nsl bnd.eq_def evs_nil evs_cons aBuild.eq_def aFill splice.eq_def cells_agg cells_int cells_bool cells_str cells_nil cells_nsl cells_isl cells_osl cells_ptr cells_ip cells_fn cells_Wd one_int one_bool one_str one_nil one_nsl one_isl one_osl one_ptr one_ip one_fn one_Wd aSets hupd_eq hupd_ne wrap_i64s wrap_u64s wrap_u32s wrap_u8s wd_getD wd_set wd_len wd_replicate wd_one wd_fold fz_osl hupd_same aSix.eq_def aEqS.eq_def aEqB_bool aEqB_nsl aEqB_nil
end Go.Proofs.Ytdcajfgeleopiaa
