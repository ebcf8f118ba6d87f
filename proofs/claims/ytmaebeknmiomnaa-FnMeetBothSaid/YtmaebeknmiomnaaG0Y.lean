/- What is known of this seat's types and functions. -/
import Derived.Test.YtmaebeknmiomnaaG0X
import Derived.Test.YtmaebeknmiomnaaChecked
import Derived.KernelRfl

namespace Go.Proofs.Ytmaebeknmiomnaa
open Go Go.RowKit
theorem dc : (∀ (p : Prop) [Decidable p], (decide p = true) = p) ∧ ∀ (p : Prop) [Decidable p], (decide p = false) = ¬ p := by simp
theorem ln : (∀ (α : Type) (a b : List α), (a ++ b).length = a.length + b.length) ∧ (∀ (α : Type) (x : α) (l : List α), (x :: l).length = l.length + 1) ∧ (∀ (α : Type), ([] : List α).length = 0) ∧ (∀ (α : Type) (l : List α) (i : Nat) (x : α), (l.set i x).length = l.length) ∧ (∀ (α : Type) (n : Nat) (x : α), (List.replicate n x).length = n) ∧ (∀ n : Nat, (n : Int).toNat = n) := by simp
theorem szT2 : szOf Try.prog 2 = some 1 := by kernel_rfl
theorem byT2 : byOf Try.prog 2 = some 8 := by kernel_rfl
theorem agT2 : aggT Try.prog 2 = some false := by kernel_rfl
theorem unT2 : Try.prog.underlying 2 = some (.int .i64) := Try.underlying2
theorem zoT2 : zOf Try.prog 2 = some [.int .i64 0] := by kernel_rfl
theorem szT3 : szOf Try.prog 3 = some 1 := by kernel_rfl
theorem byT3 : byOf Try.prog 3 = some 8 := by kernel_rfl
theorem agT3 : aggT Try.prog 3 = some false := by kernel_rfl
theorem unT3 : Try.prog.underlying 3 = some (.int .i64) := Try.underlying3
theorem zoT3 : zOf Try.prog 3 = some [.int .i64 0] := by kernel_rfl
theorem szT4 : szOf Try.prog 4 = some 1 := by kernel_rfl
theorem byT4 : byOf Try.prog 4 = some 1 := by kernel_rfl
theorem agT4 : aggT Try.prog 4 = some false := by kernel_rfl
theorem unT4 : Try.prog.underlying 4 = some .bool := Try.underlying4
theorem zoT4 : zOf Try.prog 4 = some [.bool false] := by kernel_rfl
theorem szT5 : szOf Try.prog 5 = some 1 := by kernel_rfl
theorem byT5 : byOf Try.prog 5 = some 1 := by kernel_rfl
theorem agT5 : aggT Try.prog 5 = some false := by kernel_rfl
theorem unT5 : Try.prog.underlying 5 = some (.int .u8) := Try.underlying5
theorem zoT5 : zOf Try.prog 5 = some [.int .u8 0] := by kernel_rfl
theorem szT9 : szOf Try.prog 9 = some 1 := by kernel_rfl
theorem byT9 : byOf Try.prog 9 = some 16 := by kernel_rfl
theorem agT9 : aggT Try.prog 9 = some false := by kernel_rfl
theorem stT9 : strT Try.prog 9 = true := by kernel_rfl
theorem zoT9 : zOf Try.prog 9 = some [.str ⟨#[]⟩] := by kernel_rfl
theorem szT22 : szOf Try.prog 22 = some 1 := by kernel_rfl
theorem byT22 : byOf Try.prog 22 = some 24 := by kernel_rfl
theorem agT22 : aggT Try.prog 22 = some false := by kernel_rfl
theorem elT22 : elOf Try.prog 22 = some 5 := by kernel_rfl
theorem unT22 : Try.prog.underlying 22 = some (.slice 5) := Try.underlying22
theorem zoT22 : zOf Try.prog 22 = some [.nsl] := by kernel_rfl
theorem szT24 : szOf Try.prog 24 = some 1 := by kernel_rfl
theorem byT24 : byOf Try.prog 24 = some 8 := by kernel_rfl
theorem agT24 : aggT Try.prog 24 = some false := by kernel_rfl
theorem unT24 : Try.prog.underlying 24 = some (.int .u64) := Try.underlying24
theorem zoT24 : zOf Try.prog 24 = some [.int .u64 0] := by kernel_rfl
theorem szT26 : szOf Try.prog 26 = some 4 := by kernel_rfl
theorem byT26 : byOf Try.prog 26 = some 32 := by kernel_rfl
theorem agT26 : aggT Try.prog 26 = some true := by kernel_rfl
theorem flT26 : fldsOk Try.prog 26 = true := by kernel_rfl
theorem fdT26_0 : fldOf Try.prog 26 0 = some (0, 1, 24) := by kernel_rfl
theorem fdT26_1 : fldOf Try.prog 26 1 = some (1, 1, 24) := by kernel_rfl
theorem fdT26_2 : fldOf Try.prog 26 2 = some (2, 1, 24) := by kernel_rfl
theorem fdT26_3 : fldOf Try.prog 26 3 = some (3, 1, 24) := by kernel_rfl
theorem zoT26 : zOf Try.prog 26 = some [.int .u64 0, .int .u64 0, .int .u64 0, .int .u64 0] := by kernel_rfl
theorem szT28 : szOf Try.prog 28 = some 12 := by kernel_rfl
theorem byT28 : byOf Try.prog 28 = some 96 := by kernel_rfl
theorem agT28 : aggT Try.prog 28 = some true := by kernel_rfl
theorem flT28 : fldsOk Try.prog 28 = true := by kernel_rfl
theorem fdT28_0 : fldOf Try.prog 28 0 = some (0, 4, 26) := by kernel_rfl
theorem fdT28_1 : fldOf Try.prog 28 1 = some (4, 4, 26) := by kernel_rfl
theorem fdT28_2 : fldOf Try.prog 28 2 = some (8, 4, 26) := by kernel_rfl
theorem zoT28 : zOf Try.prog 28 = some [.int .u64 0, .int .u64 0, .int .u64 0, .int .u64 0, .int .u64 0, .int .u64 0, .int .u64 0, .int .u64 0, .int .u64 0, .int .u64 0, .int .u64 0, .int .u64 0] := by kernel_rfl
theorem szT51 : szOf Try.prog 51 = some 8 := by kernel_rfl
theorem byT51 : byOf Try.prog 51 = some 64 := by kernel_rfl
theorem agT51 : aggT Try.prog 51 = some true := by kernel_rfl
theorem flT51 : fldsOk Try.prog 51 = true := by kernel_rfl
theorem fdT51_0 : fldOf Try.prog 51 0 = some (0, 4, 26) := by kernel_rfl
theorem fdT51_1 : fldOf Try.prog 51 1 = some (4, 4, 26) := by kernel_rfl
theorem zoT51 : zOf Try.prog 51 = some [.int .u64 0, .int .u64 0, .int .u64 0, .int .u64 0, .int .u64 0, .int .u64 0, .int .u64 0, .int .u64 0] := by kernel_rfl
theorem szT67 : szOf Try.prog 67 = some 2 := by kernel_rfl
theorem byT67 : byOf Try.prog 67 = some 16 := by kernel_rfl
theorem agT67 : aggT Try.prog 67 = some true := by kernel_rfl
theorem flT67 : fldsOk Try.prog 67 = true := by kernel_rfl
theorem fdT67_0 : fldOf Try.prog 67 0 = some (0, 1, 2) := by kernel_rfl
theorem fdT67_1 : fldOf Try.prog 67 1 = some (1, 1, 2) := by kernel_rfl
theorem zoT67 : zOf Try.prog 67 = some [.int .i64 0, .int .i64 0] := by kernel_rfl
theorem szT69 : szOf Try.prog 69 = some 4 := by kernel_rfl
theorem byT69 : byOf Try.prog 69 = some 32 := by kernel_rfl
theorem agT69 : aggT Try.prog 69 = some true := by kernel_rfl
theorem flT69 : fldsOk Try.prog 69 = true := by kernel_rfl
theorem fdT69_0 : fldOf Try.prog 69 0 = some (0, 2, 67) := by kernel_rfl
theorem fdT69_1 : fldOf Try.prog 69 1 = some (2, 2, 67) := by kernel_rfl
theorem zoT69 : zOf Try.prog 69 = some [.int .i64 0, .int .i64 0, .int .i64 0, .int .i64 0] := by kernel_rfl
theorem szT80 : szOf Try.prog 80 = some 1 := by kernel_rfl
theorem byT80 : byOf Try.prog 80 = some 24 := by kernel_rfl
theorem agT80 : aggT Try.prog 80 = some false := by kernel_rfl
theorem elT80 : elOf Try.prog 80 = some 28 := by kernel_rfl
theorem unT80 : Try.prog.underlying 80 = some (.slice 28) := Try.underlying80
theorem zoT80 : zOf Try.prog 80 = some [.nsl] := by kernel_rfl
theorem szT111 : szOf Try.prog 111 = some 1 := by kernel_rfl
theorem byT111 : byOf Try.prog 111 = some 24 := by kernel_rfl
theorem agT111 : aggT Try.prog 111 = some false := by kernel_rfl
theorem elT111 : elOf Try.prog 111 = some 225 := by kernel_rfl
theorem unT111 : Try.prog.underlying 111 = some (.slice 225) := Try.underlying111
theorem zoT111 : zOf Try.prog 111 = some [.nsl] := by kernel_rfl
theorem szT113 : szOf Try.prog 113 = some 2 := by kernel_rfl
theorem byT113 : byOf Try.prog 113 = some 32 := by kernel_rfl
theorem agT113 : aggT Try.prog 113 = some true := by kernel_rfl
theorem flT113 : fldsOk Try.prog 113 = true := by kernel_rfl
theorem fdT113_0 : fldOf Try.prog 113 0 = some (0, 1, 4) := by kernel_rfl
theorem fdT113_1 : fldOf Try.prog 113 1 = some (1, 1, 111) := by kernel_rfl
theorem zoT113 : zOf Try.prog 113 = some [.bool false, .nsl] := by kernel_rfl
theorem szT115 : szOf Try.prog 115 = some 6 := by kernel_rfl
theorem byT115 : byOf Try.prog 115 = some 96 := by kernel_rfl
theorem agT115 : aggT Try.prog 115 = some true := by kernel_rfl
theorem flT115 : fldsOk Try.prog 115 = true := by kernel_rfl
theorem fdT115_0 : fldOf Try.prog 115 0 = some (0, 2, 113) := by kernel_rfl
theorem fdT115_1 : fldOf Try.prog 115 1 = some (2, 2, 113) := by kernel_rfl
theorem fdT115_2 : fldOf Try.prog 115 2 = some (4, 2, 113) := by kernel_rfl
theorem zoT115 : zOf Try.prog 115 = some [.bool false, .nsl, .bool false, .nsl, .bool false, .nsl] := by kernel_rfl
theorem szT117 : szOf Try.prog 117 = some 1 := by kernel_rfl
theorem byT117 : byOf Try.prog 117 = some 24 := by kernel_rfl
theorem agT117 : aggT Try.prog 117 = some false := by kernel_rfl
theorem elT117 : elOf Try.prog 117 = some 24 := by kernel_rfl
theorem unT117 : Try.prog.underlying 117 = some (.slice 24) := Try.underlying117
theorem zoT117 : zOf Try.prog 117 = some [.nsl] := by kernel_rfl
theorem szT119 : szOf Try.prog 119 = some 2 := by kernel_rfl
theorem byT119 : byOf Try.prog 119 = some 32 := by kernel_rfl
theorem agT119 : aggT Try.prog 119 = some true := by kernel_rfl
theorem flT119 : fldsOk Try.prog 119 = true := by kernel_rfl
theorem fdT119_0 : fldOf Try.prog 119 0 = some (0, 1, 4) := by kernel_rfl
theorem fdT119_1 : fldOf Try.prog 119 1 = some (1, 1, 117) := by kernel_rfl
theorem zoT119 : zOf Try.prog 119 = some [.bool false, .nsl] := by kernel_rfl
theorem szT121 : szOf Try.prog 121 = some 6 := by kernel_rfl
theorem byT121 : byOf Try.prog 121 = some 96 := by kernel_rfl
theorem agT121 : aggT Try.prog 121 = some true := by kernel_rfl
theorem flT121 : fldsOk Try.prog 121 = true := by kernel_rfl
theorem fdT121_0 : fldOf Try.prog 121 0 = some (0, 2, 119) := by kernel_rfl
theorem fdT121_1 : fldOf Try.prog 121 1 = some (2, 2, 119) := by kernel_rfl
theorem fdT121_2 : fldOf Try.prog 121 2 = some (4, 2, 119) := by kernel_rfl
theorem zoT121 : zOf Try.prog 121 = some [.bool false, .nsl, .bool false, .nsl, .bool false, .nsl] := by kernel_rfl
theorem szT134 : szOf Try.prog 134 = some 2 := by kernel_rfl
theorem byT134 : byOf Try.prog 134 = some 16 := by kernel_rfl
theorem agT134 : aggT Try.prog 134 = some true := by kernel_rfl
theorem flT134 : fldsOk Try.prog 134 = true := by kernel_rfl
theorem fdT134_0 : fldOf Try.prog 134 0 = some (0, 1, 2) := by kernel_rfl
theorem fdT134_1 : fldOf Try.prog 134 1 = some (1, 1, 2) := by kernel_rfl
theorem zoT134 : zOf Try.prog 134 = some [.int .i64 0, .int .i64 0] := by kernel_rfl
theorem szT136 : szOf Try.prog 136 = some 4 := by kernel_rfl
theorem byT136 : byOf Try.prog 136 = some 32 := by kernel_rfl
theorem agT136 : aggT Try.prog 136 = some true := by kernel_rfl
theorem flT136 : fldsOk Try.prog 136 = true := by kernel_rfl
theorem fdT136_0 : fldOf Try.prog 136 0 = some (0, 2, 134) := by kernel_rfl
theorem fdT136_1 : fldOf Try.prog 136 1 = some (2, 2, 134) := by kernel_rfl
theorem zoT136 : zOf Try.prog 136 = some [.int .i64 0, .int .i64 0, .int .i64 0, .int .i64 0] := by kernel_rfl
theorem szT143 : szOf Try.prog 143 = some 4 := by kernel_rfl
theorem byT143 : byOf Try.prog 143 = some 64 := by kernel_rfl
theorem agT143 : aggT Try.prog 143 = some true := by kernel_rfl
theorem flT143 : fldsOk Try.prog 143 = true := by kernel_rfl
theorem fdT143_0 : fldOf Try.prog 143 0 = some (0, 2, 119) := by kernel_rfl
theorem fdT143_1 : fldOf Try.prog 143 1 = some (2, 2, 119) := by kernel_rfl
theorem zoT143 : zOf Try.prog 143 = some [.bool false, .nsl, .bool false, .nsl] := by kernel_rfl
theorem szT190 : szOf Try.prog 190 = some 2 := by kernel_rfl
theorem byT190 : byOf Try.prog 190 = some 32 := by kernel_rfl
theorem agT190 : aggT Try.prog 190 = some true := by kernel_rfl
theorem flT190 : fldsOk Try.prog 190 = true := by kernel_rfl
theorem fdT190_0 : fldOf Try.prog 190 0 = some (0, 1, 22) := by kernel_rfl
theorem fdT190_1 : fldOf Try.prog 190 1 = some (1, 1, 3) := by kernel_rfl
theorem zoT190 : zOf Try.prog 190 = some [.nsl, .int .i64 0] := by kernel_rfl
theorem szT194 : szOf Try.prog 194 = some 1 := by kernel_rfl
theorem byT194 : byOf Try.prog 194 = some 8 := by kernel_rfl
theorem agT194 : aggT Try.prog 194 = some false := by kernel_rfl
theorem unT194 : Try.prog.underlying 194 = some (.int .u64) := Try.underlying194
theorem zoT194 : zOf Try.prog 194 = some [.int .u64 0] := by kernel_rfl
theorem szT200 : szOf Try.prog 200 = some 1 := by kernel_rfl
theorem byT200 : byOf Try.prog 200 = some 24 := by kernel_rfl
theorem agT200 : aggT Try.prog 200 = some false := by kernel_rfl
theorem elT200 : elOf Try.prog 200 = some 119 := by kernel_rfl
theorem unT200 : Try.prog.underlying 200 = some (.slice 119) := Try.underlying200
theorem zoT200 : zOf Try.prog 200 = some [.nsl] := by kernel_rfl
theorem szT225 : szOf Try.prog 225 = some 1 := by kernel_rfl
theorem byT225 : byOf Try.prog 225 = some 4 := by kernel_rfl
theorem agT225 : aggT Try.prog 225 = some false := by kernel_rfl
theorem unT225 : Try.prog.underlying 225 = some (.int .u32) := Try.underlying225
theorem zoT225 : zOf Try.prog 225 = some [.int .u32 0] := by kernel_rfl
theorem szT228 : szOf Try.prog 228 = some 1 := by kernel_rfl
theorem byT228 : byOf Try.prog 228 = some 24 := by kernel_rfl
theorem agT228 : aggT Try.prog 228 = some false := by kernel_rfl
theorem elT228 : elOf Try.prog 228 = some 2 := by kernel_rfl
theorem unT228 : Try.prog.underlying 228 = some (.slice 2) := Try.underlying228
theorem zoT228 : zOf Try.prog 228 = some [.nsl] := by kernel_rfl
theorem hb2 : hasBody Try.prog 2 = true := by kernel_rfl
theorem hb3 : hasBody Try.prog 3 = true := by kernel_rfl
theorem hb15 : hasBody Try.prog 15 = true := by kernel_rfl
theorem hb17 : hasBody Try.prog 17 = true := by kernel_rfl
theorem hb19 : hasBody Try.prog 19 = true := by kernel_rfl
theorem hb20 : hasBody Try.prog 20 = true := by kernel_rfl
theorem hb29 : hasBody Try.prog 29 = true := by kernel_rfl
theorem hb32 : hasBody Try.prog 32 = true := by kernel_rfl
theorem hb43 : hasBody Try.prog 43 = true := by kernel_rfl
theorem hb44 : hasBody Try.prog 44 = true := by kernel_rfl
theorem hb48 : hasBody Try.prog 48 = true := by kernel_rfl
theorem hb49 : hasBody Try.prog 49 = true := by kernel_rfl
theorem hb50 : hasBody Try.prog 50 = true := by kernel_rfl
theorem hb69 : hasBody Try.prog 69 = true := by kernel_rfl
theorem hb70 : hasBody Try.prog 70 = true := by kernel_rfl
theorem hb71 : hasBody Try.prog 71 = true := by kernel_rfl
theorem hb76 : hasBody Try.prog 76 = true := by kernel_rfl
theorem hb78 : hasBody Try.prog 78 = true := by kernel_rfl
theorem hb79 : hasBody Try.prog 79 = true := by kernel_rfl
theorem hb80 : hasBody Try.prog 80 = true := by kernel_rfl
theorem hb84 : hasBody Try.prog 84 = true := by kernel_rfl
theorem hb85 : hasBody Try.prog 85 = true := by kernel_rfl
theorem hb86 : hasBody Try.prog 86 = true := by kernel_rfl
theorem hb87 : hasBody Try.prog 87 = true := by kernel_rfl
theorem hb88 : hasBody Try.prog 88 = true := by kernel_rfl
theorem hb89 : hasBody Try.prog 89 = true := by kernel_rfl
theorem hb90 : hasBody Try.prog 90 = true := by kernel_rfl
theorem hb91 : hasBody Try.prog 91 = true := by kernel_rfl
theorem hb92 : hasBody Try.prog 92 = true := by kernel_rfl
theorem hb93 : hasBody Try.prog 93 = true := by kernel_rfl
theorem hb95 : hasBody Try.prog 95 = true := by kernel_rfl
theorem hb98 : hasBody Try.prog 98 = true := by kernel_rfl
theorem hb101 : hasBody Try.prog 101 = true := by kernel_rfl
theorem hb102 : hasBody Try.prog 102 = true := by kernel_rfl
theorem hb103 : hasBody Try.prog 103 = true := by kernel_rfl
theorem hb104 : hasBody Try.prog 104 = true := by kernel_rfl
theorem hb105 : hasBody Try.prog 105 = true := by kernel_rfl
theorem hb106 : hasBody Try.prog 106 = true := by kernel_rfl
theorem hb109 : hasBody Try.prog 109 = true := by kernel_rfl
theorem hb114 : hasBody Try.prog 114 = true := by kernel_rfl
theorem hb121 : hasBody Try.prog 121 = true := by kernel_rfl
theorem hb122 : hasBody Try.prog 122 = true := by kernel_rfl
theorem hb123 : hasBody Try.prog 123 = true := by kernel_rfl
theorem hb127 : hasBody Try.prog 127 = true := by kernel_rfl
theorem hb128 : hasBody Try.prog 128 = true := by kernel_rfl
theorem hb129 : hasBody Try.prog 129 = true := by kernel_rfl
theorem hb130 : hasBody Try.prog 130 = true := by kernel_rfl
theorem hb134 : hasBody Try.prog 134 = true := by kernel_rfl
theorem hb135 : hasBody Try.prog 135 = true := by kernel_rfl
theorem hb155 : hasBody Try.prog 155 = true := by kernel_rfl
theorem hb159 : hasBody Try.prog 159 = true := by kernel_rfl
theorem hb163 : hasBody Try.prog 163 = true := by kernel_rfl
theorem hb164 : hasBody Try.prog 164 = true := by kernel_rfl
theorem hb166 : hasBody Try.prog 166 = true := by kernel_rfl
theorem hb167 : hasBody Try.prog 167 = true := by kernel_rfl
theorem hb168 : hasBody Try.prog 168 = true := by kernel_rfl
theorem hb169 : hasBody Try.prog 169 = true := by kernel_rfl
theorem hb171 : hasBody Try.prog 171 = true := by kernel_rfl
theorem hb172 : hasBody Try.prog 172 = true := by kernel_rfl
theorem hb173 : hasBody Try.prog 173 = true := by kernel_rfl
theorem hb174 : hasBody Try.prog 174 = true := by kernel_rfl
theorem hb175 : hasBody Try.prog 175 = true := by kernel_rfl
theorem hb176 : hasBody Try.prog 176 = true := by kernel_rfl
theorem hb177 : hasBody Try.prog 177 = true := by kernel_rfl
theorem hb179 : hasBody Try.prog 179 = true := by kernel_rfl
theorem hb180 : hasBody Try.prog 180 = true := by kernel_rfl
theorem hb182 : hasBody Try.prog 182 = true := by kernel_rfl
theorem hb183 : hasBody Try.prog 183 = true := by kernel_rfl
theorem hb187 : hasBody Try.prog 187 = true := by kernel_rfl
theorem hb188 : hasBody Try.prog 188 = true := by kernel_rfl
theorem hb190 : hasBody Try.prog 190 = true := by kernel_rfl
theorem hb191 : hasBody Try.prog 191 = true := by kernel_rfl
theorem hb192 : hasBody Try.prog 192 = true := by kernel_rfl
theorem hb193 : hasBody Try.prog 193 = true := by kernel_rfl
theorem hb194 : hasBody Try.prog 194 = true := by kernel_rfl
theorem hb195 : hasBody Try.prog 195 = true := by kernel_rfl
theorem hb196 : hasBody Try.prog 196 = true := by kernel_rfl
theorem hb197 : hasBody Try.prog 197 = true := by kernel_rfl
theorem hb198 : hasBody Try.prog 198 = true := by kernel_rfl
theorem hb199 : hasBody Try.prog 199 = true := by kernel_rfl
theorem hb202 : hasBody Try.prog 202 = true := by kernel_rfl
theorem hb209 : hasBody Try.prog 209 = true := by kernel_rfl
theorem hb210 : hasBody Try.prog 210 = true := by kernel_rfl
theorem hb211 : hasBody Try.prog 211 = true := by kernel_rfl
theorem hb212 : hasBody Try.prog 212 = true := by kernel_rfl
theorem hb213 : hasBody Try.prog 213 = true := by kernel_rfl
theorem hb214 : hasBody Try.prog 214 = true := by kernel_rfl
theorem hb215 : hasBody Try.prog 215 = true := by kernel_rfl
theorem hb217 : hasBody Try.prog 217 = true := by kernel_rfl
theorem nb178 : Bodyless Try.prog 178 add64Entry := ⟨Try.f178, Try.func178, by kernel_rfl, by kernel_rfl, by kernel_rfl, by kernel_rfl⟩
theorem nb216 : Bodyless Try.prog 216 sub64Entry := ⟨Try.f216, Try.func216, by kernel_rfl, by kernel_rfl, by kernel_rfl, by kernel_rfl⟩
attribute [simp] idf_Wd' List.getElem?_cons_zero List.getElem?_cons_succ List.getElem?_toArray runOps stepOp.eq_def agd.eq_def dstOk.eq_def opVal.eq_def opNew.eq_def opSto.eq_def ev.eq_def cv.eq_def puts_some puts_none upd_ap lst.eq_def aBin.eq_def aUn.eq_def aBi_str aBi_isl aBi_osl aBi_nsl aBi_max aBi_min aBi_max3 aConv.eq_def aLd.eq_def aLoad.eq_def aField.eq_def aFld.eq_def aIdx_isl aIdx_osl aSlc_isl aSlc_osl aSlc_str aSlc_nsl bnd.eq_def evs_nil evs_cons aBuild.eq_def aFill splice.eq_def cells_agg cells_int cells_bool cells_str cells_nil cells_nsl cells_isl cells_osl cells_ptr cells_ip cells_fn cells_Wd one_int one_bool one_str one_nil one_nsl one_isl one_osl one_ptr one_ip one_fn one_Wd aSets hupd_eq hupd_ne wrap_i64s wrap_u64s wrap_u32s wrap_u8s wd_getD wd_set wd_len wd_replicate wd_one wd_fold fz_osl hupd_same aSix.eq_def aEqS.eq_def aEqB_bool aEqB_nsl aEqB_nil
end Go.Proofs.Ytmaebeknmiomnaa
