/- What is known of this seat's types and functions. -/
import Derived.Test.YtdcggmbnjonemaaG0T
import Derived.Test.YtdcggmbnjonemaaChecked
import Derived.KernelRfl

namespace Go.Proofs.Ytdcggmbnjonemaa
open Go Go.RowKit
theorem ln : (∀ (α : Type) (a b : List α), (a ++ b).length = a.length + b.length) ∧ (∀ (α : Type) (x : α) (l : List α), (x :: l).length = l.length + 1) ∧ (∀ (α : Type), ([] : List α).length = 0) ∧ (∀ (α : Type) (l : List α) (i : Nat) (x : α), (l.set i x).length = l.length) ∧ (∀ (α : Type) (n : Nat) (x : α), (List.replicate n x).length = n) ∧ (∀ n : Nat, (n : Int).toNat = n) := by simp
theorem szT2 : szOf Try.prog 2 = some 1 := by kernel_rfl
theorem byT2 : byOf Try.prog 2 = some 8 := by kernel_rfl
theorem agT2 : aggT Try.prog 2 = some false := by kernel_rfl
theorem unT2 : Try.prog.underlying 2 = some (.int .i64) := Try.underlying2
theorem zoT2 : zOf Try.prog 2 = some [.int .i64 0] := by kernel_rfl
theorem szT3 : szOf Try.prog 3 = some 1 := by kernel_rfl
theorem byT3 : byOf Try.prog 3 = some 8 := by kernel_rfl
theorem agT3 : aggT Try.prog 3 = some false := by kernel_rfl
theorem unT3 : Try.prog.underlying 3 = some (.int .i64) := Try.underlying3
theorem zoT3 : zOf Try.prog 3 = some [.int .i64 0] := by kernel_rfl
theorem szT4 : szOf Try.prog 4 = some 1 := by kernel_rfl
theorem byT4 : byOf Try.prog 4 = some 1 := by kernel_rfl
theorem agT4 : aggT Try.prog 4 = some false := by kernel_rfl
theorem unT4 : Try.prog.underlying 4 = some .bool := Try.underlying4
theorem zoT4 : zOf Try.prog 4 = some [.bool false] := by kernel_rfl
theorem szT5 : szOf Try.prog 5 = some 1 := by kernel_rfl
theorem byT5 : byOf Try.prog 5 = some 1 := by kernel_rfl
theorem agT5 : aggT Try.prog 5 = some false := by kernel_rfl
theorem unT5 : Try.prog.underlying 5 = some (.int .u8) := Try.underlying5
theorem zoT5 : zOf Try.prog 5 = some [.int .u8 0] := by kernel_rfl
theorem szT9 : szOf Try.prog 9 = some 1 := by kernel_rfl
theorem byT9 : byOf Try.prog 9 = some 16 := by kernel_rfl
theorem agT9 : aggT Try.prog 9 = some false := by kernel_rfl
theorem stT9 : strT Try.prog 9 = true := by kernel_rfl
theorem zoT9 : zOf Try.prog 9 = some [.str ⟨#[]⟩] := by kernel_rfl
theorem szT22 : szOf Try.prog 22 = some 1 := by kernel_rfl
theorem byT22 : byOf Try.prog 22 = some 24 := by kernel_rfl
theorem agT22 : aggT Try.prog 22 = some false := by kernel_rfl
theorem elT22 : elOf Try.prog 22 = some 75 := by kernel_rfl
theorem unT22 : Try.prog.underlying 22 = some (.slice 75) := Try.underlying22
theorem zoT22 : zOf Try.prog 22 = some [.nsl] := by kernel_rfl
theorem szT25 : szOf Try.prog 25 = some 1 := by kernel_rfl
theorem byT25 : byOf Try.prog 25 = some 24 := by kernel_rfl
theorem agT25 : aggT Try.prog 25 = some false := by kernel_rfl
theorem elT25 : elOf Try.prog 25 = some 78 := by kernel_rfl
theorem unT25 : Try.prog.underlying 25 = some (.slice 78) := Try.underlying25
theorem zoT25 : zOf Try.prog 25 = some [.nsl] := by kernel_rfl
theorem szT31 : szOf Try.prog 31 = some 1 := by kernel_rfl
theorem byT31 : byOf Try.prog 31 = some 8 := by kernel_rfl
theorem agT31 : aggT Try.prog 31 = some false := by kernel_rfl
theorem unT31 : Try.prog.underlying 31 = some (.int .u64) := Try.underlying31
theorem zoT31 : zOf Try.prog 31 = some [.int .u64 0] := by kernel_rfl
theorem szT33 : szOf Try.prog 33 = some 4 := by kernel_rfl
theorem byT33 : byOf Try.prog 33 = some 32 := by kernel_rfl
theorem agT33 : aggT Try.prog 33 = some true := by kernel_rfl
theorem flT33 : fldsOk Try.prog 33 = true := by kernel_rfl
theorem fdT33_0 : fldOf Try.prog 33 0 = some (0, 1, 31) := by kernel_rfl
theorem fdT33_1 : fldOf Try.prog 33 1 = some (1, 1, 31) := by kernel_rfl
theorem fdT33_2 : fldOf Try.prog 33 2 = some (2, 1, 31) := by kernel_rfl
theorem fdT33_3 : fldOf Try.prog 33 3 = some (3, 1, 31) := by kernel_rfl
theorem zoT33 : zOf Try.prog 33 = some [.int .u64 0, .int .u64 0, .int .u64 0, .int .u64 0] := by kernel_rfl
theorem szT35 : szOf Try.prog 35 = some 12 := by kernel_rfl
theorem byT35 : byOf Try.prog 35 = some 96 := by kernel_rfl
theorem agT35 : aggT Try.prog 35 = some true := by kernel_rfl
theorem flT35 : fldsOk Try.prog 35 = true := by kernel_rfl
theorem fdT35_0 : fldOf Try.prog 35 0 = some (0, 4, 33) := by kernel_rfl
theorem fdT35_1 : fldOf Try.prog 35 1 = some (4, 4, 33) := by kernel_rfl
theorem fdT35_2 : fldOf Try.prog 35 2 = some (8, 4, 33) := by kernel_rfl
theorem zoT35 : zOf Try.prog 35 = some [.int .u64 0, .int .u64 0, .int .u64 0, .int .u64 0, .int .u64 0, .int .u64 0, .int .u64 0, .int .u64 0, .int .u64 0, .int .u64 0, .int .u64 0, .int .u64 0] := by kernel_rfl
theorem szT40 : szOf Try.prog 40 = some 8 := by kernel_rfl
theorem byT40 : byOf Try.prog 40 = some 64 := by kernel_rfl
theorem agT40 : aggT Try.prog 40 = some true := by kernel_rfl
theorem flT40 : fldsOk Try.prog 40 = true := by kernel_rfl
theorem fdT40_0 : fldOf Try.prog 40 0 = some (0, 4, 33) := by kernel_rfl
theorem fdT40_1 : fldOf Try.prog 40 1 = some (4, 4, 33) := by kernel_rfl
theorem zoT40 : zOf Try.prog 40 = some [.int .u64 0, .int .u64 0, .int .u64 0, .int .u64 0, .int .u64 0, .int .u64 0, .int .u64 0, .int .u64 0] := by kernel_rfl
theorem szT55 : szOf Try.prog 55 = some 2 := by kernel_rfl
theorem byT55 : byOf Try.prog 55 = some 16 := by kernel_rfl
theorem agT55 : aggT Try.prog 55 = some true := by kernel_rfl
theorem flT55 : fldsOk Try.prog 55 = true := by kernel_rfl
theorem fdT55_0 : fldOf Try.prog 55 0 = some (0, 1, 2) := by kernel_rfl
theorem fdT55_1 : fldOf Try.prog 55 1 = some (1, 1, 2) := by kernel_rfl
theorem zoT55 : zOf Try.prog 55 = some [.int .i64 0, .int .i64 0] := by kernel_rfl
theorem szT57 : szOf Try.prog 57 = some 4 := by kernel_rfl
theorem byT57 : byOf Try.prog 57 = some 32 := by kernel_rfl
theorem agT57 : aggT Try.prog 57 = some true := by kernel_rfl
theorem flT57 : fldsOk Try.prog 57 = true := by kernel_rfl
theorem fdT57_0 : fldOf Try.prog 57 0 = some (0, 2, 55) := by kernel_rfl
theorem fdT57_1 : fldOf Try.prog 57 1 = some (2, 2, 55) := by kernel_rfl
theorem zoT57 : zOf Try.prog 57 = some [.int .i64 0, .int .i64 0, .int .i64 0, .int .i64 0] := by kernel_rfl
theorem szT60 : szOf Try.prog 60 = some 2 := by kernel_rfl
theorem byT60 : byOf Try.prog 60 = some 16 := by kernel_rfl
theorem agT60 : aggT Try.prog 60 = some true := by kernel_rfl
theorem flT60 : fldsOk Try.prog 60 = true := by kernel_rfl
theorem fdT60_0 : fldOf Try.prog 60 0 = some (0, 1, 2) := by kernel_rfl
theorem fdT60_1 : fldOf Try.prog 60 1 = some (1, 1, 2) := by kernel_rfl
theorem zoT60 : zOf Try.prog 60 = some [.int .i64 0, .int .i64 0] := by kernel_rfl
theorem szT62 : szOf Try.prog 62 = some 4 := by kernel_rfl
theorem byT62 : byOf Try.prog 62 = some 32 := by kernel_rfl
theorem agT62 : aggT Try.prog 62 = some true := by kernel_rfl
theorem flT62 : fldsOk Try.prog 62 = true := by kernel_rfl
theorem fdT62_0 : fldOf Try.prog 62 0 = some (0, 2, 60) := by kernel_rfl
theorem fdT62_1 : fldOf Try.prog 62 1 = some (2, 2, 60) := by kernel_rfl
theorem zoT62 : zOf Try.prog 62 = some [.int .i64 0, .int .i64 0, .int .i64 0, .int .i64 0] := by kernel_rfl
theorem szT66 : szOf Try.prog 66 = some 4 := by kernel_rfl
theorem byT66 : byOf Try.prog 66 = some 32 := by kernel_rfl
theorem agT66 : aggT Try.prog 66 = some true := by kernel_rfl
theorem flT66 : fldsOk Try.prog 66 = true := by kernel_rfl
theorem fdT66_0 : fldOf Try.prog 66 0 = some (0, 1, 31) := by kernel_rfl
theorem fdT66_1 : fldOf Try.prog 66 1 = some (1, 1, 31) := by kernel_rfl
theorem fdT66_2 : fldOf Try.prog 66 2 = some (2, 1, 31) := by kernel_rfl
theorem fdT66_3 : fldOf Try.prog 66 3 = some (3, 1, 31) := by kernel_rfl
theorem zoT66 : zOf Try.prog 66 = some [.int .u64 0, .int .u64 0, .int .u64 0, .int .u64 0] := by kernel_rfl
theorem szT68 : szOf Try.prog 68 = some 12 := by kernel_rfl
theorem byT68 : byOf Try.prog 68 = some 96 := by kernel_rfl
theorem agT68 : aggT Try.prog 68 = some true := by kernel_rfl
theorem flT68 : fldsOk Try.prog 68 = true := by kernel_rfl
theorem fdT68_0 : fldOf Try.prog 68 0 = some (0, 4, 66) := by kernel_rfl
theorem fdT68_1 : fldOf Try.prog 68 1 = some (4, 4, 66) := by kernel_rfl
theorem fdT68_2 : fldOf Try.prog 68 2 = some (8, 4, 66) := by kernel_rfl
theorem zoT68 : zOf Try.prog 68 = some [.int .u64 0, .int .u64 0, .int .u64 0, .int .u64 0, .int .u64 0, .int .u64 0, .int .u64 0, .int .u64 0, .int .u64 0, .int .u64 0, .int .u64 0, .int .u64 0] := by kernel_rfl
theorem szT73 : szOf Try.prog 73 = some 1 := by kernel_rfl
theorem byT73 : byOf Try.prog 73 = some 24 := by kernel_rfl
theorem agT73 : aggT Try.prog 73 = some false := by kernel_rfl
theorem elT73 : elOf Try.prog 73 = some 68 := by kernel_rfl
theorem unT73 : Try.prog.underlying 73 = some (.slice 68) := Try.underlying73
theorem zoT73 : zOf Try.prog 73 = some [.nsl] := by kernel_rfl
theorem szT75 : szOf Try.prog 75 = some 1 := by kernel_rfl
theorem byT75 : byOf Try.prog 75 = some 24 := by kernel_rfl
theorem agT75 : aggT Try.prog 75 = some true := by kernel_rfl
theorem flT75 : fldsOk Try.prog 75 = true := by kernel_rfl
theorem fdT75_0 : fldOf Try.prog 75 0 = some (0, 1, 73) := by kernel_rfl
theorem zoT75 : zOf Try.prog 75 = some [.nsl] := by kernel_rfl
theorem szT76 : szOf Try.prog 76 = some 1 := by kernel_rfl
theorem byT76 : byOf Try.prog 76 = some 24 := by kernel_rfl
theorem agT76 : aggT Try.prog 76 = some false := by kernel_rfl
theorem elT76 : elOf Try.prog 76 = some 35 := by kernel_rfl
theorem unT76 : Try.prog.underlying 76 = some (.slice 35) := Try.underlying76
theorem zoT76 : zOf Try.prog 76 = some [.nsl] := by kernel_rfl
theorem szT78 : szOf Try.prog 78 = some 1 := by kernel_rfl
theorem byT78 : byOf Try.prog 78 = some 24 := by kernel_rfl
theorem agT78 : aggT Try.prog 78 = some true := by kernel_rfl
theorem flT78 : fldsOk Try.prog 78 = true := by kernel_rfl
theorem fdT78_0 : fldOf Try.prog 78 0 = some (0, 1, 76) := by kernel_rfl
theorem zoT78 : zOf Try.prog 78 = some [.nsl] := by kernel_rfl
theorem szT90 : szOf Try.prog 90 = some 1 := by kernel_rfl
theorem byT90 : byOf Try.prog 90 = some 24 := by kernel_rfl
theorem agT90 : aggT Try.prog 90 = some false := by kernel_rfl
theorem elT90 : elOf Try.prog 90 = some 180 := by kernel_rfl
theorem unT90 : Try.prog.underlying 90 = some (.slice 180) := Try.underlying90
theorem zoT90 : zOf Try.prog 90 = some [.nsl] := by kernel_rfl
theorem szT92 : szOf Try.prog 92 = some 2 := by kernel_rfl
theorem byT92 : byOf Try.prog 92 = some 32 := by kernel_rfl
theorem agT92 : aggT Try.prog 92 = some true := by kernel_rfl
theorem flT92 : fldsOk Try.prog 92 = true := by kernel_rfl
theorem fdT92_0 : fldOf Try.prog 92 0 = some (0, 1, 4) := by kernel_rfl
theorem fdT92_1 : fldOf Try.prog 92 1 = some (1, 1, 90) := by kernel_rfl
theorem zoT92 : zOf Try.prog 92 = some [.bool false, .nsl] := by kernel_rfl
theorem szT94 : szOf Try.prog 94 = some 6 := by kernel_rfl
theorem byT94 : byOf Try.prog 94 = some 96 := by kernel_rfl
theorem agT94 : aggT Try.prog 94 = some true := by kernel_rfl
theorem flT94 : fldsOk Try.prog 94 = true := by kernel_rfl
theorem fdT94_0 : fldOf Try.prog 94 0 = some (0, 2, 92) := by kernel_rfl
theorem fdT94_1 : fldOf Try.prog 94 1 = some (2, 2, 92) := by kernel_rfl
theorem fdT94_2 : fldOf Try.prog 94 2 = some (4, 2, 92) := by kernel_rfl
theorem zoT94 : zOf Try.prog 94 = some [.bool false, .nsl, .bool false, .nsl, .bool false, .nsl] := by kernel_rfl
theorem szT97 : szOf Try.prog 97 = some 1 := by kernel_rfl
theorem byT97 : byOf Try.prog 97 = some 24 := by kernel_rfl
theorem agT97 : aggT Try.prog 97 = some false := by kernel_rfl
theorem elT97 : elOf Try.prog 97 = some 31 := by kernel_rfl
theorem unT97 : Try.prog.underlying 97 = some (.slice 31) := Try.underlying97
theorem zoT97 : zOf Try.prog 97 = some [.nsl] := by kernel_rfl
theorem szT99 : szOf Try.prog 99 = some 2 := by kernel_rfl
theorem byT99 : byOf Try.prog 99 = some 32 := by kernel_rfl
theorem agT99 : aggT Try.prog 99 = some true := by kernel_rfl
theorem flT99 : fldsOk Try.prog 99 = true := by kernel_rfl
theorem fdT99_0 : fldOf Try.prog 99 0 = some (0, 1, 4) := by kernel_rfl
theorem fdT99_1 : fldOf Try.prog 99 1 = some (1, 1, 97) := by kernel_rfl
theorem zoT99 : zOf Try.prog 99 = some [.bool false, .nsl] := by kernel_rfl
theorem szT101 : szOf Try.prog 101 = some 4 := by kernel_rfl
theorem byT101 : byOf Try.prog 101 = some 64 := by kernel_rfl
theorem agT101 : aggT Try.prog 101 = some true := by kernel_rfl
theorem flT101 : fldsOk Try.prog 101 = true := by kernel_rfl
theorem fdT101_0 : fldOf Try.prog 101 0 = some (0, 2, 99) := by kernel_rfl
theorem fdT101_1 : fldOf Try.prog 101 1 = some (2, 2, 99) := by kernel_rfl
theorem zoT101 : zOf Try.prog 101 = some [.bool false, .nsl, .bool false, .nsl] := by kernel_rfl
theorem szT144 : szOf Try.prog 144 = some 1 := by kernel_rfl
theorem byT144 : byOf Try.prog 144 = some 8 := by kernel_rfl
theorem agT144 : aggT Try.prog 144 = some false := by kernel_rfl
theorem unT144 : Try.prog.underlying 144 = some (.int .u64) := Try.underlying144
theorem zoT144 : zOf Try.prog 144 = some [.int .u64 0] := by kernel_rfl
theorem szT150 : szOf Try.prog 150 = some 6 := by kernel_rfl
theorem byT150 : byOf Try.prog 150 = some 96 := by kernel_rfl
theorem agT150 : aggT Try.prog 150 = some true := by kernel_rfl
theorem flT150 : fldsOk Try.prog 150 = true := by kernel_rfl
theorem fdT150_0 : fldOf Try.prog 150 0 = some (0, 2, 99) := by kernel_rfl
theorem fdT150_1 : fldOf Try.prog 150 1 = some (2, 2, 99) := by kernel_rfl
theorem fdT150_2 : fldOf Try.prog 150 2 = some (4, 2, 99) := by kernel_rfl
theorem zoT150 : zOf Try.prog 150 = some [.bool false, .nsl, .bool false, .nsl, .bool false, .nsl] := by kernel_rfl
theorem szT162 : szOf Try.prog 162 = some 1 := by kernel_rfl
theorem byT162 : byOf Try.prog 162 = some 24 := by kernel_rfl
theorem agT162 : aggT Try.prog 162 = some false := by kernel_rfl
theorem elT162 : elOf Try.prog 162 = some 99 := by kernel_rfl
theorem unT162 : Try.prog.underlying 162 = some (.slice 99) := Try.underlying162
theorem zoT162 : zOf Try.prog 162 = some [.nsl] := by kernel_rfl
theorem szT180 : szOf Try.prog 180 = some 1 := by kernel_rfl
theorem byT180 : byOf Try.prog 180 = some 4 := by kernel_rfl
theorem agT180 : aggT Try.prog 180 = some false := by kernel_rfl
theorem unT180 : Try.prog.underlying 180 = some (.int .u32) := Try.underlying180
theorem zoT180 : zOf Try.prog 180 = some [.int .u32 0] := by kernel_rfl
theorem hb29 : hasBody Try.prog 29 = true := by kernel_rfl
theorem hb32 : hasBody Try.prog 32 = true := by kernel_rfl
theorem hb33 : hasBody Try.prog 33 = true := by kernel_rfl
theorem hb34 : hasBody Try.prog 34 = true := by kernel_rfl
theorem hb35 : hasBody Try.prog 35 = true := by kernel_rfl
theorem hb60 : hasBody Try.prog 60 = true := by kernel_rfl
theorem hb61 : hasBody Try.prog 61 = true := by kernel_rfl
theorem hb62 : hasBody Try.prog 62 = true := by kernel_rfl
theorem hb63 : hasBody Try.prog 63 = true := by kernel_rfl
theorem hb64 : hasBody Try.prog 64 = true := by kernel_rfl
theorem hb66 : hasBody Try.prog 66 = true := by kernel_rfl
theorem hb69 : hasBody Try.prog 69 = true := by kernel_rfl
theorem hb70 : hasBody Try.prog 70 = true := by kernel_rfl
theorem hb71 : hasBody Try.prog 71 = true := by kernel_rfl
theorem hb72 : hasBody Try.prog 72 = true := by kernel_rfl
theorem hb73 : hasBody Try.prog 73 = true := by kernel_rfl
theorem hb74 : hasBody Try.prog 74 = true := by kernel_rfl
theorem hb75 : hasBody Try.prog 75 = true := by kernel_rfl
theorem hb76 : hasBody Try.prog 76 = true := by kernel_rfl
theorem hb77 : hasBody Try.prog 77 = true := by kernel_rfl
theorem hb85 : hasBody Try.prog 85 = true := by kernel_rfl
theorem hb86 : hasBody Try.prog 86 = true := by kernel_rfl
theorem hb87 : hasBody Try.prog 87 = true := by kernel_rfl
theorem hb88 : hasBody Try.prog 88 = true := by kernel_rfl
theorem hb89 : hasBody Try.prog 89 = true := by kernel_rfl
theorem hb100 : hasBody Try.prog 100 = true := by kernel_rfl
theorem hb101 : hasBody Try.prog 101 = true := by kernel_rfl
theorem hb102 : hasBody Try.prog 102 = true := by kernel_rfl
theorem hb104 : hasBody Try.prog 104 = true := by kernel_rfl
theorem hb105 : hasBody Try.prog 105 = true := by kernel_rfl
theorem hb109 : hasBody Try.prog 109 = true := by kernel_rfl
theorem hb111 : hasBody Try.prog 111 = true := by kernel_rfl
theorem hb112 : hasBody Try.prog 112 = true := by kernel_rfl
theorem hb113 : hasBody Try.prog 113 = true := by kernel_rfl
theorem hb114 : hasBody Try.prog 114 = true := by kernel_rfl
theorem hb115 : hasBody Try.prog 115 = true := by kernel_rfl
theorem hb116 : hasBody Try.prog 116 = true := by kernel_rfl
theorem hb118 : hasBody Try.prog 118 = true := by kernel_rfl
theorem hb119 : hasBody Try.prog 119 = true := by kernel_rfl
theorem hb120 : hasBody Try.prog 120 = true := by kernel_rfl
theorem hb121 : hasBody Try.prog 121 = true := by kernel_rfl
theorem hb122 : hasBody Try.prog 122 = true := by kernel_rfl
theorem hb123 : hasBody Try.prog 123 = true := by kernel_rfl
theorem hb124 : hasBody Try.prog 124 = true := by kernel_rfl
theorem hb125 : hasBody Try.prog 125 = true := by kernel_rfl
theorem hb126 : hasBody Try.prog 126 = true := by kernel_rfl
theorem hb127 : hasBody Try.prog 127 = true := by kernel_rfl
theorem hb129 : hasBody Try.prog 129 = true := by kernel_rfl
theorem hb130 : hasBody Try.prog 130 = true := by kernel_rfl
theorem hb131 : hasBody Try.prog 131 = true := by kernel_rfl
theorem hb132 : hasBody Try.prog 132 = true := by kernel_rfl
theorem hb136 : hasBody Try.prog 136 = true := by kernel_rfl
theorem hb137 : hasBody Try.prog 137 = true := by kernel_rfl
theorem hb138 : hasBody Try.prog 138 = true := by kernel_rfl
theorem hb140 : hasBody Try.prog 140 = true := by kernel_rfl
theorem hb141 : hasBody Try.prog 141 = true := by kernel_rfl
theorem hb142 : hasBody Try.prog 142 = true := by kernel_rfl
theorem hb143 : hasBody Try.prog 143 = true := by kernel_rfl
theorem hb144 : hasBody Try.prog 144 = true := by kernel_rfl
theorem hb145 : hasBody Try.prog 145 = true := by kernel_rfl
theorem hb146 : hasBody Try.prog 146 = true := by kernel_rfl
theorem hb147 : hasBody Try.prog 147 = true := by kernel_rfl
theorem hb148 : hasBody Try.prog 148 = true := by kernel_rfl
theorem hb150 : hasBody Try.prog 150 = true := by kernel_rfl
theorem hb151 : hasBody Try.prog 151 = true := by kernel_rfl
theorem hb153 : hasBody Try.prog 153 = true := by kernel_rfl
theorem nb117 : Bodyless Try.prog 117 add64Entry := ⟨Try.f117, Try.func117, by kernel_rfl, by kernel_rfl, by kernel_rfl, by kernel_rfl⟩
theorem nb149 : Bodyless Try.prog 149 sub64Entry := ⟨Try.f149, Try.func149, by kernel_rfl, by kernel_rfl, by kernel_rfl, by kernel_rfl⟩
end Go.Proofs.Ytdcggmbnjonemaa
