/- What is known of this seat's types and functions. -/
import Derived.Test.YtdcajfgeleopiaaG0Y
import Derived.Test.YtdcajfgeleopiaaChecked
import Derived.KernelRfl

namespace Go.Proofs.Ytdcajfgeleopiaa
open Go Go.RowKit
theorem dc : (∀ (p : Prop) [Decidable p], (decide p = true) = p) ∧ ∀ (p : Prop) [Decidable p], (decide p = false) = ¬ p := by simp
theorem ln : (∀ (α : Type) (a b : List α), (a ++ b).length = a.length + b.length) ∧ (∀ (α : Type) (x : α) (l : List α), (x :: l).length = l.length + 1) ∧ (∀ (α : Type), ([] : List α).length = 0) ∧ (∀ (α : Type) (l : List α) (i : Nat) (x : α), (l.set i x).length = l.length) ∧ (∀ (α : Type) (n : Nat) (x : α), (List.replicate n x).length = n) ∧ (∀ n : Nat, (n : Int).toNat = n) := by simp
theorem szT2 : szOf Try.prog 2 = some 1 := by kernel_rfl
theorem byT2 : byOf Try.prog 2 = some 8 := by kernel_rfl
theorem agT2 : aggT Try.prog 2 = some false := by kernel_rfl
theorem unT2 : Try.prog.underlying 2 = some (.int .i64) := Try.underlying2
theorem zoT2 : zOf Try.prog 2 = some [.int .i64 0] := by kernel_rfl
theorem szT3 : szOf Try.prog 3 = some 1 := by kernel_rfl
theorem byT3 : byOf Try.prog 3 = some 8 := by kernel_rfl
theorem agT3 : aggT Try.prog 3 = some false := by kernel_rfl
theorem unT3 : Try.prog.underlying 3 = some (.int .i64) := Try.underlying3
theorem zoT3 : zOf Try.prog 3 = some [.int .i64 0] := by kernel_rfl
theorem szT4 : szOf Try.prog 4 = some 1 := by kernel_rfl
theorem byT4 : byOf Try.prog 4 = some 1 := by kernel_rfl
theorem agT4 : aggT Try.prog 4 = some false := by kernel_rfl
theorem unT4 : Try.prog.underlying 4 = some .bool := Try.underlying4
theorem zoT4 : zOf Try.prog 4 = some [.bool false] := by kernel_rfl
theorem szT5 : szOf Try.prog 5 = some 1 := by kernel_rfl
theorem byT5 : byOf Try.prog 5 = some 1 := by kernel_rfl
theorem agT5 : aggT Try.prog 5 = some false := by kernel_rfl
theorem unT5 : Try.prog.underlying 5 = some (.int .u8) := Try.underlying5
theorem zoT5 : zOf Try.prog 5 = some [.int .u8 0] := by kernel_rfl
theorem szT9 : szOf Try.prog 9 = some 1 := by kernel_rfl
theorem byT9 : byOf Try.prog 9 = some 16 := by kernel_rfl
theorem agT9 : aggT Try.prog 9 = some false := by kernel_rfl
theorem stT9 : strT Try.prog 9 = true := by kernel_rfl
theorem zoT9 : zOf Try.prog 9 = some [.str ⟨#[]⟩] := by kernel_rfl
theorem szT22 : szOf Try.prog 22 = some 1 := by kernel_rfl
theorem byT22 : byOf Try.prog 22 = some 24 := by kernel_rfl
theorem agT22 : aggT Try.prog 22 = some false := by kernel_rfl
theorem elT22 : elOf Try.prog 22 = some 5 := by kernel_rfl
theorem unT22 : Try.prog.underlying 22 = some (.slice 5) := Try.underlying22
theorem zoT22 : zOf Try.prog 22 = some [.nsl] := by kernel_rfl
theorem szT24 : szOf Try.prog 24 = some 1 := by kernel_rfl
theorem byT24 : byOf Try.prog 24 = some 8 := by kernel_rfl
theorem agT24 : aggT Try.prog 24 = some false := by kernel_rfl
theorem unT24 : Try.prog.underlying 24 = some (.int .u64) := Try.underlying24
theorem zoT24 : zOf Try.prog 24 = some [.int .u64 0] := by kernel_rfl
theorem szT26 : szOf Try.prog 26 = some 4 := by kernel_rfl
theorem byT26 : byOf Try.prog 26 = some 32 := by kernel_rfl
theorem agT26 : aggT Try.prog 26 = some true := by kernel_rfl
theorem flT26 : fldsOk Try.prog 26 = true := by kernel_rfl
theorem fdT26_0 : fldOf Try.prog 26 0 = some (0, 1, 24) := by kernel_rfl
theorem fdT26_1 : fldOf Try.prog 26 1 = some (1, 1, 24) := by kernel_rfl
theorem fdT26_2 : fldOf Try.prog 26 2 = some (2, 1, 24) := by kernel_rfl
theorem fdT26_3 : fldOf Try.prog 26 3 = some (3, 1, 24) := by kernel_rfl
theorem zoT26 : zOf Try.prog 26 = some [.int .u64 0, .int .u64 0, .int .u64 0, .int .u64 0] := by kernel_rfl
theorem szT28 : szOf Try.prog 28 = some 8 := by kernel_rfl
theorem byT28 : byOf Try.prog 28 = some 64 := by kernel_rfl
theorem agT28 : aggT Try.prog 28 = some true := by kernel_rfl
theorem flT28 : fldsOk Try.prog 28 = true := by kernel_rfl
theorem fdT28_0 : fldOf Try.prog 28 0 = some (0, 4, 26) := by kernel_rfl
theorem fdT28_1 : fldOf Try.prog 28 1 = some (4, 4, 26) := by kernel_rfl
theorem zoT28 : zOf Try.prog 28 = some [.int .u64 0, .int .u64 0, .int .u64 0, .int .u64 0, .int .u64 0, .int .u64 0, .int .u64 0, .int .u64 0] := by kernel_rfl
theorem szT35 : szOf Try.prog 35 = some 1 := by kernel_rfl
theorem byT35 : byOf Try.prog 35 = some 24 := by kernel_rfl
theorem agT35 : aggT Try.prog 35 = some false := by kernel_rfl
theorem elT35 : elOf Try.prog 35 = some 158 := by kernel_rfl
theorem unT35 : Try.prog.underlying 35 = some (.slice 158) := Try.underlying35
theorem zoT35 : zOf Try.prog 35 = some [.nsl] := by kernel_rfl
theorem szT37 : szOf Try.prog 37 = some 1 := by kernel_rfl
theorem byT37 : byOf Try.prog 37 = some 24 := by kernel_rfl
theorem agT37 : aggT Try.prog 37 = some true := by kernel_rfl
theorem flT37 : fldsOk Try.prog 37 = true := by kernel_rfl
theorem fdT37_0 : fldOf Try.prog 37 0 = some (0, 1, 35) := by kernel_rfl
theorem zoT37 : zOf Try.prog 37 = some [.nsl] := by kernel_rfl
theorem szT41 : szOf Try.prog 41 = some 1 := by kernel_rfl
theorem byT41 : byOf Try.prog 41 = some 24 := by kernel_rfl
theorem agT41 : aggT Try.prog 41 = some false := by kernel_rfl
theorem elT41 : elOf Try.prog 41 = some 102 := by kernel_rfl
theorem unT41 : Try.prog.underlying 41 = some (.slice 102) := Try.underlying41
theorem zoT41 : zOf Try.prog 41 = some [.nsl] := by kernel_rfl
theorem szT43 : szOf Try.prog 43 = some 1 := by kernel_rfl
theorem byT43 : byOf Try.prog 43 = some 24 := by kernel_rfl
theorem agT43 : aggT Try.prog 43 = some true := by kernel_rfl
theorem flT43 : fldsOk Try.prog 43 = true := by kernel_rfl
theorem fdT43_0 : fldOf Try.prog 43 0 = some (0, 1, 41) := by kernel_rfl
theorem zoT43 : zOf Try.prog 43 = some [.nsl] := by kernel_rfl
theorem szT51 : szOf Try.prog 51 = some 12 := by kernel_rfl
theorem byT51 : byOf Try.prog 51 = some 96 := by kernel_rfl
theorem agT51 : aggT Try.prog 51 = some true := by kernel_rfl
theorem flT51 : fldsOk Try.prog 51 = true := by kernel_rfl
theorem fdT51_0 : fldOf Try.prog 51 0 = some (0, 4, 26) := by kernel_rfl
theorem fdT51_1 : fldOf Try.prog 51 1 = some (4, 4, 26) := by kernel_rfl
theorem fdT51_2 : fldOf Try.prog 51 2 = some (8, 4, 26) := by kernel_rfl
theorem zoT51 : zOf Try.prog 51 = some [.int .u64 0, .int .u64 0, .int .u64 0, .int .u64 0, .int .u64 0, .int .u64 0, .int .u64 0, .int .u64 0, .int .u64 0, .int .u64 0, .int .u64 0, .int .u64 0] := by kernel_rfl
theorem szT78 : szOf Try.prog 78 = some 1 := by kernel_rfl
theorem byT78 : byOf Try.prog 78 = some 24 := by kernel_rfl
theorem agT78 : aggT Try.prog 78 = some false := by kernel_rfl
theorem elT78 : elOf Try.prog 78 = some 148 := by kernel_rfl
theorem unT78 : Try.prog.underlying 78 = some (.slice 148) := Try.underlying78
theorem zoT78 : zOf Try.prog 78 = some [.nsl] := by kernel_rfl
theorem szT80 : szOf Try.prog 80 = some 2 := by kernel_rfl
theorem byT80 : byOf Try.prog 80 = some 32 := by kernel_rfl
theorem agT80 : aggT Try.prog 80 = some true := by kernel_rfl
theorem flT80 : fldsOk Try.prog 80 = true := by kernel_rfl
theorem fdT80_0 : fldOf Try.prog 80 0 = some (0, 1, 4) := by kernel_rfl
theorem fdT80_1 : fldOf Try.prog 80 1 = some (1, 1, 78) := by kernel_rfl
theorem zoT80 : zOf Try.prog 80 = some [.bool false, .nsl] := by kernel_rfl
theorem szT82 : szOf Try.prog 82 = some 4 := by kernel_rfl
theorem byT82 : byOf Try.prog 82 = some 64 := by kernel_rfl
theorem agT82 : aggT Try.prog 82 = some true := by kernel_rfl
theorem flT82 : fldsOk Try.prog 82 = true := by kernel_rfl
theorem fdT82_0 : fldOf Try.prog 82 0 = some (0, 2, 80) := by kernel_rfl
theorem fdT82_1 : fldOf Try.prog 82 1 = some (2, 2, 80) := by kernel_rfl
theorem zoT82 : zOf Try.prog 82 = some [.bool false, .nsl, .bool false, .nsl] := by kernel_rfl
theorem szT87 : szOf Try.prog 87 = some 1 := by kernel_rfl
theorem byT87 : byOf Try.prog 87 = some 24 := by kernel_rfl
theorem agT87 : aggT Try.prog 87 = some false := by kernel_rfl
theorem elT87 : elOf Try.prog 87 = some 24 := by kernel_rfl
theorem unT87 : Try.prog.underlying 87 = some (.slice 24) := Try.underlying87
theorem zoT87 : zOf Try.prog 87 = some [.nsl] := by kernel_rfl
theorem szT89 : szOf Try.prog 89 = some 2 := by kernel_rfl
theorem byT89 : byOf Try.prog 89 = some 32 := by kernel_rfl
theorem agT89 : aggT Try.prog 89 = some true := by kernel_rfl
theorem flT89 : fldsOk Try.prog 89 = true := by kernel_rfl
theorem fdT89_0 : fldOf Try.prog 89 0 = some (0, 1, 4) := by kernel_rfl
theorem fdT89_1 : fldOf Try.prog 89 1 = some (1, 1, 87) := by kernel_rfl
theorem zoT89 : zOf Try.prog 89 = some [.bool false, .nsl] := by kernel_rfl
theorem szT91 : szOf Try.prog 91 = some 4 := by kernel_rfl
theorem byT91 : byOf Try.prog 91 = some 64 := by kernel_rfl
theorem agT91 : aggT Try.prog 91 = some true := by kernel_rfl
theorem flT91 : fldsOk Try.prog 91 = true := by kernel_rfl
theorem fdT91_0 : fldOf Try.prog 91 0 = some (0, 2, 89) := by kernel_rfl
theorem fdT91_1 : fldOf Try.prog 91 1 = some (2, 2, 89) := by kernel_rfl
theorem zoT91 : zOf Try.prog 91 = some [.bool false, .nsl, .bool false, .nsl] := by kernel_rfl
theorem szT98 : szOf Try.prog 98 = some 1 := by kernel_rfl
theorem byT98 : byOf Try.prog 98 = some 24 := by kernel_rfl
theorem agT98 : aggT Try.prog 98 = some false := by kernel_rfl
theorem elT98 : elOf Try.prog 98 = some 9 := by kernel_rfl
theorem unT98 : Try.prog.underlying 98 = some (.slice 9) := Try.underlying98
theorem zoT98 : zOf Try.prog 98 = some [.nsl] := by kernel_rfl
theorem szT102 : szOf Try.prog 102 = some 2 := by kernel_rfl
theorem byT102 : byOf Try.prog 102 = some 16 := by kernel_rfl
theorem agT102 : aggT Try.prog 102 = some true := by kernel_rfl
theorem flT102 : fldsOk Try.prog 102 = true := by kernel_rfl
theorem fdT102_0 : fldOf Try.prog 102 0 = some (0, 1, 2) := by kernel_rfl
theorem fdT102_1 : fldOf Try.prog 102 1 = some (1, 1, 2) := by kernel_rfl
theorem zoT102 : zOf Try.prog 102 = some [.int .i64 0, .int .i64 0] := by kernel_rfl
theorem szT113 : szOf Try.prog 113 = some 6 := by kernel_rfl
theorem byT113 : byOf Try.prog 113 = some 96 := by kernel_rfl
theorem agT113 : aggT Try.prog 113 = some true := by kernel_rfl
theorem flT113 : fldsOk Try.prog 113 = true := by kernel_rfl
theorem fdT113_0 : fldOf Try.prog 113 0 = some (0, 2, 80) := by kernel_rfl
theorem fdT113_1 : fldOf Try.prog 113 1 = some (2, 2, 80) := by kernel_rfl
theorem fdT113_2 : fldOf Try.prog 113 2 = some (4, 2, 80) := by kernel_rfl
theorem zoT113 : zOf Try.prog 113 = some [.bool false, .nsl, .bool false, .nsl, .bool false, .nsl] := by kernel_rfl
theorem szT116 : szOf Try.prog 116 = some 6 := by kernel_rfl
theorem byT116 : byOf Try.prog 116 = some 96 := by kernel_rfl
theorem agT116 : aggT Try.prog 116 = some true := by kernel_rfl
theorem flT116 : fldsOk Try.prog 116 = true := by kernel_rfl
theorem fdT116_0 : fldOf Try.prog 116 0 = some (0, 2, 89) := by kernel_rfl
theorem fdT116_1 : fldOf Try.prog 116 1 = some (2, 2, 89) := by kernel_rfl
theorem fdT116_2 : fldOf Try.prog 116 2 = some (4, 2, 89) := by kernel_rfl
theorem zoT116 : zOf Try.prog 116 = some [.bool false, .nsl, .bool false, .nsl, .bool false, .nsl] := by kernel_rfl
theorem szT134 : szOf Try.prog 134 = some 2 := by kernel_rfl
theorem byT134 : byOf Try.prog 134 = some 32 := by kernel_rfl
theorem agT134 : aggT Try.prog 134 = some true := by kernel_rfl
theorem flT134 : fldsOk Try.prog 134 = true := by kernel_rfl
theorem fdT134_0 : fldOf Try.prog 134 0 = some (0, 1, 22) := by kernel_rfl
theorem fdT134_1 : fldOf Try.prog 134 1 = some (1, 1, 3) := by kernel_rfl
theorem zoT134 : zOf Try.prog 134 = some [.nsl, .int .i64 0] := by kernel_rfl
theorem szT148 : szOf Try.prog 148 = some 1 := by kernel_rfl
theorem byT148 : byOf Try.prog 148 = some 4 := by kernel_rfl
theorem agT148 : aggT Try.prog 148 = some false := by kernel_rfl
theorem unT148 : Try.prog.underlying 148 = some (.int .u32) := Try.underlying148
theorem zoT148 : zOf Try.prog 148 = some [.int .u32 0] := by kernel_rfl
theorem szT149 : szOf Try.prog 149 = some 1 := by kernel_rfl
theorem byT149 : byOf Try.prog 149 = some 8 := by kernel_rfl
theorem agT149 : aggT Try.prog 149 = some false := by kernel_rfl
theorem unT149 : Try.prog.underlying 149 = some (.int .u64) := Try.underlying149
theorem zoT149 : zOf Try.prog 149 = some [.int .u64 0] := by kernel_rfl
theorem szT150 : szOf Try.prog 150 = some 1 := by kernel_rfl
theorem byT150 : byOf Try.prog 150 = some 24 := by kernel_rfl
theorem agT150 : aggT Try.prog 150 = some false := by kernel_rfl
theorem elT150 : elOf Try.prog 150 = some 89 := by kernel_rfl
theorem unT150 : Try.prog.underlying 150 = some (.slice 89) := Try.underlying150
theorem zoT150 : zOf Try.prog 150 = some [.nsl] := by kernel_rfl
theorem szT158 : szOf Try.prog 158 = some 2 := by kernel_rfl
theorem byT158 : byOf Try.prog 158 = some 16 := by kernel_rfl
theorem agT158 : aggT Try.prog 158 = some true := by kernel_rfl
theorem flT158 : fldsOk Try.prog 158 = true := by kernel_rfl
theorem fdT158_0 : fldOf Try.prog 158 0 = some (0, 1, 2) := by kernel_rfl
theorem fdT158_1 : fldOf Try.prog 158 1 = some (1, 1, 2) := by kernel_rfl
theorem zoT158 : zOf Try.prog 158 = some [.int .i64 0, .int .i64 0] := by kernel_rfl
theorem szT179 : szOf Try.prog 179 = some 1 := by kernel_rfl
theorem byT179 : byOf Try.prog 179 = some 24 := by kernel_rfl
theorem agT179 : aggT Try.prog 179 = some false := by kernel_rfl
theorem elT179 : elOf Try.prog 179 = some 2 := by kernel_rfl
theorem unT179 : Try.prog.underlying 179 = some (.slice 2) := Try.underlying179
theorem zoT179 : zOf Try.prog 179 = some [.nsl] := by kernel_rfl
theorem szT180 : szOf Try.prog 180 = some 1 := by kernel_rfl
theorem byT180 : byOf Try.prog 180 = some 24 := by kernel_rfl
theorem agT180 : aggT Try.prog 180 = some false := by kernel_rfl
theorem elT180 : elOf Try.prog 180 = some 26 := by kernel_rfl
theorem unT180 : Try.prog.underlying 180 = some (.slice 26) := Try.underlying180
theorem zoT180 : zOf Try.prog 180 = some [.nsl] := by kernel_rfl
theorem hb2 : hasBody Try.prog 2 = true := by kernel_rfl
theorem hb3 : hasBody Try.prog 3 = true := by kernel_rfl
theorem hb10 : hasBody Try.prog 10 = true := by kernel_rfl
theorem hb11 : hasBody Try.prog 11 = true := by kernel_rfl
theorem hb12 : hasBody Try.prog 12 = true := by kernel_rfl
theorem hb13 : hasBody Try.prog 13 = true := by kernel_rfl
theorem hb14 : hasBody Try.prog 14 = true := by kernel_rfl
theorem hb15 : hasBody Try.prog 15 = true := by kernel_rfl
theorem hb16 : hasBody Try.prog 16 = true := by kernel_rfl
theorem hb32 : hasBody Try.prog 32 = true := by kernel_rfl
theorem hb47 : hasBody Try.prog 47 = true := by kernel_rfl
theorem hb48 : hasBody Try.prog 48 = true := by kernel_rfl
theorem hb49 : hasBody Try.prog 49 = true := by kernel_rfl
theorem hb50 : hasBody Try.prog 50 = true := by kernel_rfl
theorem hb51 : hasBody Try.prog 51 = true := by kernel_rfl
theorem hb52 : hasBody Try.prog 52 = true := by kernel_rfl
theorem hb53 : hasBody Try.prog 53 = true := by kernel_rfl
theorem hb54 : hasBody Try.prog 54 = true := by kernel_rfl
theorem hb55 : hasBody Try.prog 55 = true := by kernel_rfl
theorem hb56 : hasBody Try.prog 56 = true := by kernel_rfl
theorem hb57 : hasBody Try.prog 57 = true := by kernel_rfl
theorem hb58 : hasBody Try.prog 58 = true := by kernel_rfl
theorem hb59 : hasBody Try.prog 59 = true := by kernel_rfl
theorem hb60 : hasBody Try.prog 60 = true := by kernel_rfl
theorem hb61 : hasBody Try.prog 61 = true := by kernel_rfl
theorem hb62 : hasBody Try.prog 62 = true := by kernel_rfl
theorem hb63 : hasBody Try.prog 63 = true := by kernel_rfl
theorem hb77 : hasBody Try.prog 77 = true := by kernel_rfl
theorem hb102 : hasBody Try.prog 102 = true := by kernel_rfl
theorem hb103 : hasBody Try.prog 103 = true := by kernel_rfl
theorem hb104 : hasBody Try.prog 104 = true := by kernel_rfl
theorem hb105 : hasBody Try.prog 105 = true := by kernel_rfl
theorem hb106 : hasBody Try.prog 106 = true := by kernel_rfl
theorem hb107 : hasBody Try.prog 107 = true := by kernel_rfl
theorem hb108 : hasBody Try.prog 108 = true := by kernel_rfl
theorem hb109 : hasBody Try.prog 109 = true := by kernel_rfl
theorem hb110 : hasBody Try.prog 110 = true := by kernel_rfl
theorem hb111 : hasBody Try.prog 111 = true := by kernel_rfl
theorem hb112 : hasBody Try.prog 112 = true := by kernel_rfl
theorem hb113 : hasBody Try.prog 113 = true := by kernel_rfl
theorem hb114 : hasBody Try.prog 114 = true := by kernel_rfl
theorem hb115 : hasBody Try.prog 115 = true := by kernel_rfl
theorem hb116 : hasBody Try.prog 116 = true := by kernel_rfl
theorem hb117 : hasBody Try.prog 117 = true := by kernel_rfl
theorem hb118 : hasBody Try.prog 118 = true := by kernel_rfl
theorem hb119 : hasBody Try.prog 119 = true := by kernel_rfl
theorem hb120 : hasBody Try.prog 120 = true := by kernel_rfl
theorem hb121 : hasBody Try.prog 121 = true := by kernel_rfl
theorem hb126 : hasBody Try.prog 126 = true := by kernel_rfl
theorem hb129 : hasBody Try.prog 129 = true := by kernel_rfl
theorem hb137 : hasBody Try.prog 137 = true := by kernel_rfl
theorem hb138 : hasBody Try.prog 138 = true := by kernel_rfl
theorem hb143 : hasBody Try.prog 143 = true := by kernel_rfl
theorem hb144 : hasBody Try.prog 144 = true := by kernel_rfl
theorem hb151 : hasBody Try.prog 151 = true := by kernel_rfl
theorem hb152 : hasBody Try.prog 152 = true := by kernel_rfl
theorem hb153 : hasBody Try.prog 153 = true := by kernel_rfl
theorem hb154 : hasBody Try.prog 154 = true := by kernel_rfl
theorem hb155 : hasBody Try.prog 155 = true := by kernel_rfl
theorem hb156 : hasBody Try.prog 156 = true := by kernel_rfl
theorem hb157 : hasBody Try.prog 157 = true := by kernel_rfl
theorem hb158 : hasBody Try.prog 158 = true := by kernel_rfl
theorem hb159 : hasBody Try.prog 159 = true := by kernel_rfl
theorem hb160 : hasBody Try.prog 160 = true := by kernel_rfl
theorem hb161 : hasBody Try.prog 161 = true := by kernel_rfl
theorem hb162 : hasBody Try.prog 162 = true := by kernel_rfl
theorem hb163 : hasBody Try.prog 163 = true := by kernel_rfl
theorem hb164 : hasBody Try.prog 164 = true := by kernel_rfl
theorem hb165 : hasBody Try.prog 165 = true := by kernel_rfl
theorem hb168 : hasBody Try.prog 168 = true := by kernel_rfl
theorem hb170 : hasBody Try.prog 170 = true := by kernel_rfl
theorem hb171 : hasBody Try.prog 171 = true := by kernel_rfl
theorem hb172 : hasBody Try.prog 172 = true := by kernel_rfl
theorem hb174 : hasBody Try.prog 174 = true := by kernel_rfl
theorem hb175 : hasBody Try.prog 175 = true := by kernel_rfl
theorem hb176 : hasBody Try.prog 176 = true := by kernel_rfl
theorem hb181 : hasBody Try.prog 181 = true := by kernel_rfl
theorem nb166 : Bodyless Try.prog 166 add64Entry := ⟨Try.f166, Try.func166, by kernel_rfl, by kernel_rfl, by kernel_rfl, by kernel_rfl⟩
theorem nb167 : Bodyless Try.prog 167 sub64Entry := ⟨Try.f167, Try.func167, by kernel_rfl, by kernel_rfl, by kernel_rfl, by kernel_rfl⟩
theorem mixT : Try.prog.follows .mixedOrders = true := Try.checked.mixed
attribute [simp] idf_Wd' List.getElem?_cons_zero List.getElem?_cons_succ List.getElem?_toArray runOps stepOp.eq_def agd.eq_def dstOk.eq_def opVal.eq_def opNew.eq_def opSto.eq_def ev.eq_def cv.eq_def puts_some puts_none upd_ap lst.eq_def aBin.eq_def aUn.eq_def aBi_str aBi_isl aBi_osl aBi_nsl aBi_cap aBi_max aBi_min aBi_max3 aConv.eq_def aLd.eq_def aLoad.eq_def aField.eq_def aFld.eq_def aIdx_isl aIdx_osl aSlc_isl aSlc_osl aSlc_str aSlc_nsl bnd.eq_def evs_nil evs_cons aBuild.eq_def aFill splice.eq_def cells_agg cells_int cells_bool cells_str cells_nil cells_nsl cells_isl cells_osl cells_ptr cells_ip cells_fn cells_Wd one_int one_bool one_str one_nil one_nsl one_isl one_osl one_ptr one_ip one_fn one_Wd aSets hupd_eq hupd_ne wrap_i64s wrap_u64s wrap_u32s wrap_u8s wd_getD wd_set wd_len wd_replicate wd_one wd_fold fz_osl hupd_same aSix.eq_def aEqS.eq_def aEqB_bool aEqB_nsl aEqB_nil
end Go.Proofs.Ytdcajfgeleopiaa
