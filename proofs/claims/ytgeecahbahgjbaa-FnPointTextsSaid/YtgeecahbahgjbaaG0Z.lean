/- What is known of this seat's types and functions. -/
import Derived.Test.YtgeecahbahgjbaaG0Y
import Derived.Test.YtgeecahbahgjbaaChecked
import Derived.KernelRfl

namespace Go.Proofs.Ytgeecahbahgjbaa
open Go Go.RowKit
theorem dc : (∀ (p : Prop) [Decidable p], (decide p = true) = p) ∧ ∀ (p : Prop) [Decidable p], (decide p = false) = ¬ p := by simp
theorem ln : (∀ (α : Type) (a b : List α), (a ++ b).length = a.length + b.length) ∧ (∀ (α : Type) (x : α) (l : List α), (x :: l).length = l.length + 1) ∧ (∀ (α : Type), ([] : List α).length = 0) ∧ (∀ (α : Type) (l : List α) (i : Nat) (x : α), (l.set i x).length = l.length) ∧ (∀ (α : Type) (n : Nat) (x : α), (List.replicate n x).length = n) ∧ (∀ n : Nat, (n : Int).toNat = n) := by simp
theorem szT2 : szOf Try.prog 2 = some 1 := by kernel_rfl
theorem byT2 : byOf Try.prog 2 = some 8 := by kernel_rfl
theorem agT2 : aggT Try.prog 2 = some false := by kernel_rfl
theorem unT2 : Try.prog.underlying 2 = some (.int .i64) := Try.underlying2
theorem zoT2 : zOf Try.prog 2 = some [.int .i64 0] := by kernel_rfl
theorem szT3 : szOf Try.prog 3 = some 1 := by kernel_rfl
theorem byT3 : byOf Try.prog 3 = some 8 := by kernel_rfl
theorem agT3 : aggT Try.prog 3 = some false := by kernel_rfl
theorem unT3 : Try.prog.underlying 3 = some (.int .i64) := Try.underlying3
theorem zoT3 : zOf Try.prog 3 = some [.int .i64 0] := by kernel_rfl
theorem szT4 : szOf Try.prog 4 = some 1 := by kernel_rfl
theorem byT4 : byOf Try.prog 4 = some 1 := by kernel_rfl
theorem agT4 : aggT Try.prog 4 = some false := by kernel_rfl
theorem unT4 : Try.prog.underlying 4 = some .bool := Try.underlying4
theorem zoT4 : zOf Try.prog 4 = some [.bool false] := by kernel_rfl
theorem szT5 : szOf Try.prog 5 = some 1 := by kernel_rfl
theorem byT5 : byOf Try.prog 5 = some 1 := by kernel_rfl
theorem agT5 : aggT Try.prog 5 = some false := by kernel_rfl
theorem unT5 : Try.prog.underlying 5 = some (.int .u8) := Try.underlying5
theorem zoT5 : zOf Try.prog 5 = some [.int .u8 0] := by kernel_rfl
theorem szT9 : szOf Try.prog 9 = some 1 := by kernel_rfl
theorem byT9 : byOf Try.prog 9 = some 16 := by kernel_rfl
theorem agT9 : aggT Try.prog 9 = some false := by kernel_rfl
theorem stT9 : strT Try.prog 9 = true := by kernel_rfl
theorem zoT9 : zOf Try.prog 9 = some [.str ⟨#[]⟩] := by kernel_rfl
theorem szT22 : szOf Try.prog 22 = some 1 := by kernel_rfl
theorem byT22 : byOf Try.prog 22 = some 24 := by kernel_rfl
theorem agT22 : aggT Try.prog 22 = some false := by kernel_rfl
theorem elT22 : elOf Try.prog 22 = some 5 := by kernel_rfl
theorem unT22 : Try.prog.underlying 22 = some (.slice 5) := Try.underlying22
theorem zoT22 : zOf Try.prog 22 = some [.nsl] := by kernel_rfl
theorem szT24 : szOf Try.prog 24 = some 1 := by kernel_rfl
theorem byT24 : byOf Try.prog 24 = some 8 := by kernel_rfl
theorem agT24 : aggT Try.prog 24 = some false := by kernel_rfl
theorem unT24 : Try.prog.underlying 24 = some (.int .u64) := Try.underlying24
theorem zoT24 : zOf Try.prog 24 = some [.int .u64 0] := by kernel_rfl
theorem szT26 : szOf Try.prog 26 = some 4 := by kernel_rfl
theorem byT26 : byOf Try.prog 26 = some 32 := by kernel_rfl
theorem agT26 : aggT Try.prog 26 = some true := by kernel_rfl
theorem flT26 : fldsOk Try.prog 26 = true := by kernel_rfl
theorem fdT26_0 : fldOf Try.prog 26 0 = some (0, 1, 24) := by kernel_rfl
theorem fdT26_1 : fldOf Try.prog 26 1 = some (1, 1, 24) := by kernel_rfl
theorem fdT26_2 : fldOf Try.prog 26 2 = some (2, 1, 24) := by kernel_rfl
theorem fdT26_3 : fldOf Try.prog 26 3 = some (3, 1, 24) := by kernel_rfl
theorem zoT26 : zOf Try.prog 26 = some [.int .u64 0, .int .u64 0, .int .u64 0, .int .u64 0] := by kernel_rfl
theorem szT28 : szOf Try.prog 28 = some 12 := by kernel_rfl
theorem byT28 : byOf Try.prog 28 = some 96 := by kernel_rfl
theorem agT28 : aggT Try.prog 28 = some true := by kernel_rfl
theorem flT28 : fldsOk Try.prog 28 = true := by kernel_rfl
theorem fdT28_0 : fldOf Try.prog 28 0 = some (0, 4, 26) := by kernel_rfl
theorem fdT28_1 : fldOf Try.prog 28 1 = some (4, 4, 26) := by kernel_rfl
theorem fdT28_2 : fldOf Try.prog 28 2 = some (8, 4, 26) := by kernel_rfl
theorem zoT28 : zOf Try.prog 28 = some [.int .u64 0, .int .u64 0, .int .u64 0, .int .u64 0, .int .u64 0, .int .u64 0, .int .u64 0, .int .u64 0, .int .u64 0, .int .u64 0, .int .u64 0, .int .u64 0] := by kernel_rfl
theorem szT44 : szOf Try.prog 44 = some 1 := by kernel_rfl
theorem byT44 : byOf Try.prog 44 = some 24 := by kernel_rfl
theorem agT44 : aggT Try.prog 44 = some false := by kernel_rfl
theorem elT44 : elOf Try.prog 44 = some 86 := by kernel_rfl
theorem unT44 : Try.prog.underlying 44 = some (.slice 86) := Try.underlying44
theorem zoT44 : zOf Try.prog 44 = some [.nsl] := by kernel_rfl
theorem szT46 : szOf Try.prog 46 = some 2 := by kernel_rfl
theorem byT46 : byOf Try.prog 46 = some 32 := by kernel_rfl
theorem agT46 : aggT Try.prog 46 = some true := by kernel_rfl
theorem flT46 : fldsOk Try.prog 46 = true := by kernel_rfl
theorem fdT46_0 : fldOf Try.prog 46 0 = some (0, 1, 4) := by kernel_rfl
theorem fdT46_1 : fldOf Try.prog 46 1 = some (1, 1, 44) := by kernel_rfl
theorem zoT46 : zOf Try.prog 46 = some [.bool false, .nsl] := by kernel_rfl
theorem szT48 : szOf Try.prog 48 = some 6 := by kernel_rfl
theorem byT48 : byOf Try.prog 48 = some 96 := by kernel_rfl
theorem agT48 : aggT Try.prog 48 = some true := by kernel_rfl
theorem flT48 : fldsOk Try.prog 48 = true := by kernel_rfl
theorem fdT48_0 : fldOf Try.prog 48 0 = some (0, 2, 46) := by kernel_rfl
theorem fdT48_1 : fldOf Try.prog 48 1 = some (2, 2, 46) := by kernel_rfl
theorem fdT48_2 : fldOf Try.prog 48 2 = some (4, 2, 46) := by kernel_rfl
theorem zoT48 : zOf Try.prog 48 = some [.bool false, .nsl, .bool false, .nsl, .bool false, .nsl] := by kernel_rfl
theorem szT53 : szOf Try.prog 53 = some 1 := by kernel_rfl
theorem byT53 : byOf Try.prog 53 = some 24 := by kernel_rfl
theorem agT53 : aggT Try.prog 53 = some false := by kernel_rfl
theorem elT53 : elOf Try.prog 53 = some 24 := by kernel_rfl
theorem unT53 : Try.prog.underlying 53 = some (.slice 24) := Try.underlying53
theorem zoT53 : zOf Try.prog 53 = some [.nsl] := by kernel_rfl
theorem szT55 : szOf Try.prog 55 = some 2 := by kernel_rfl
theorem byT55 : byOf Try.prog 55 = some 32 := by kernel_rfl
theorem agT55 : aggT Try.prog 55 = some true := by kernel_rfl
theorem flT55 : fldsOk Try.prog 55 = true := by kernel_rfl
theorem fdT55_0 : fldOf Try.prog 55 0 = some (0, 1, 4) := by kernel_rfl
theorem fdT55_1 : fldOf Try.prog 55 1 = some (1, 1, 53) := by kernel_rfl
theorem zoT55 : zOf Try.prog 55 = some [.bool false, .nsl] := by kernel_rfl
theorem szT57 : szOf Try.prog 57 = some 6 := by kernel_rfl
theorem byT57 : byOf Try.prog 57 = some 96 := by kernel_rfl
theorem agT57 : aggT Try.prog 57 = some true := by kernel_rfl
theorem flT57 : fldsOk Try.prog 57 = true := by kernel_rfl
theorem fdT57_0 : fldOf Try.prog 57 0 = some (0, 2, 55) := by kernel_rfl
theorem fdT57_1 : fldOf Try.prog 57 1 = some (2, 2, 55) := by kernel_rfl
theorem fdT57_2 : fldOf Try.prog 57 2 = some (4, 2, 55) := by kernel_rfl
theorem zoT57 : zOf Try.prog 57 = some [.bool false, .nsl, .bool false, .nsl, .bool false, .nsl] := by kernel_rfl
theorem szT64 : szOf Try.prog 64 = some 1 := by kernel_rfl
theorem byT64 : byOf Try.prog 64 = some 24 := by kernel_rfl
theorem agT64 : aggT Try.prog 64 = some false := by kernel_rfl
theorem elT64 : elOf Try.prog 64 = some 9 := by kernel_rfl
theorem unT64 : Try.prog.underlying 64 = some (.slice 9) := Try.underlying64
theorem zoT64 : zOf Try.prog 64 = some [.nsl] := by kernel_rfl
theorem szT66 : szOf Try.prog 66 = some 2 := by kernel_rfl
theorem byT66 : byOf Try.prog 66 = some 32 := by kernel_rfl
theorem agT66 : aggT Try.prog 66 = some true := by kernel_rfl
theorem flT66 : fldsOk Try.prog 66 = true := by kernel_rfl
theorem fdT66_0 : fldOf Try.prog 66 0 = some (0, 1, 22) := by kernel_rfl
theorem fdT66_1 : fldOf Try.prog 66 1 = some (1, 1, 3) := by kernel_rfl
theorem zoT66 : zOf Try.prog 66 = some [.nsl, .int .i64 0] := by kernel_rfl
theorem szT71 : szOf Try.prog 71 = some 1 := by kernel_rfl
theorem byT71 : byOf Try.prog 71 = some 8 := by kernel_rfl
theorem agT71 : aggT Try.prog 71 = some false := by kernel_rfl
theorem unT71 : Try.prog.underlying 71 = some (.int .u64) := Try.underlying71
theorem zoT71 : zOf Try.prog 71 = some [.int .u64 0] := by kernel_rfl
theorem szT75 : szOf Try.prog 75 = some 2 := by kernel_rfl
theorem byT75 : byOf Try.prog 75 = some 16 := by kernel_rfl
theorem agT75 : aggT Try.prog 75 = some true := by kernel_rfl
theorem flT75 : fldsOk Try.prog 75 = true := by kernel_rfl
theorem fdT75_0 : fldOf Try.prog 75 0 = some (0, 1, 2) := by kernel_rfl
theorem fdT75_1 : fldOf Try.prog 75 1 = some (1, 1, 2) := by kernel_rfl
theorem zoT75 : zOf Try.prog 75 = some [.int .i64 0, .int .i64 0] := by kernel_rfl
theorem szT86 : szOf Try.prog 86 = some 1 := by kernel_rfl
theorem byT86 : byOf Try.prog 86 = some 4 := by kernel_rfl
theorem agT86 : aggT Try.prog 86 = some false := by kernel_rfl
theorem unT86 : Try.prog.underlying 86 = some (.int .u32) := Try.underlying86
theorem zoT86 : zOf Try.prog 86 = some [.int .u32 0] := by kernel_rfl
theorem szT89 : szOf Try.prog 89 = some 1 := by kernel_rfl
theorem byT89 : byOf Try.prog 89 = some 24 := by kernel_rfl
theorem agT89 : aggT Try.prog 89 = some false := by kernel_rfl
theorem elT89 : elOf Try.prog 89 = some 55 := by kernel_rfl
theorem unT89 : Try.prog.underlying 89 = some (.slice 55) := Try.underlying89
theorem zoT89 : zOf Try.prog 89 = some [.nsl] := by kernel_rfl
theorem szT98 : szOf Try.prog 98 = some 1 := by kernel_rfl
theorem byT98 : byOf Try.prog 98 = some 24 := by kernel_rfl
theorem agT98 : aggT Try.prog 98 = some false := by kernel_rfl
theorem elT98 : elOf Try.prog 98 = some 2 := by kernel_rfl
theorem unT98 : Try.prog.underlying 98 = some (.slice 2) := Try.underlying98
theorem zoT98 : zOf Try.prog 98 = some [.nsl] := by kernel_rfl
theorem szT99 : szOf Try.prog 99 = some 1 := by kernel_rfl
theorem byT99 : byOf Try.prog 99 = some 24 := by kernel_rfl
theorem agT99 : aggT Try.prog 99 = some false := by kernel_rfl
theorem elT99 : elOf Try.prog 99 = some 26 := by kernel_rfl
theorem unT99 : Try.prog.underlying 99 = some (.slice 26) := Try.underlying99
theorem zoT99 : zOf Try.prog 99 = some [.nsl] := by kernel_rfl
theorem hb2 : hasBody Try.prog 2 = true := by kernel_rfl
theorem hb3 : hasBody Try.prog 3 = true := by kernel_rfl
theorem hb4 : hasBody Try.prog 4 = true := by kernel_rfl
theorem hb5 : hasBody Try.prog 5 = true := by kernel_rfl
theorem hb6 : hasBody Try.prog 6 = true := by kernel_rfl
theorem hb7 : hasBody Try.prog 7 = true := by kernel_rfl
theorem hb8 : hasBody Try.prog 8 = true := by kernel_rfl
theorem hb9 : hasBody Try.prog 9 = true := by kernel_rfl
theorem hb10 : hasBody Try.prog 10 = true := by kernel_rfl
theorem hb11 : hasBody Try.prog 11 = true := by kernel_rfl
theorem hb12 : hasBody Try.prog 12 = true := by kernel_rfl
theorem hb13 : hasBody Try.prog 13 = true := by kernel_rfl
theorem hb14 : hasBody Try.prog 14 = true := by kernel_rfl
theorem hb15 : hasBody Try.prog 15 = true := by kernel_rfl
theorem hb16 : hasBody Try.prog 16 = true := by kernel_rfl
theorem hb17 : hasBody Try.prog 17 = true := by kernel_rfl
theorem hb18 : hasBody Try.prog 18 = true := by kernel_rfl
theorem hb19 : hasBody Try.prog 19 = true := by kernel_rfl
theorem hb20 : hasBody Try.prog 20 = true := by kernel_rfl
theorem hb21 : hasBody Try.prog 21 = true := by kernel_rfl
theorem hb22 : hasBody Try.prog 22 = true := by kernel_rfl
theorem hb23 : hasBody Try.prog 23 = true := by kernel_rfl
theorem hb24 : hasBody Try.prog 24 = true := by kernel_rfl
theorem hb25 : hasBody Try.prog 25 = true := by kernel_rfl
theorem hb26 : hasBody Try.prog 26 = true := by kernel_rfl
theorem hb27 : hasBody Try.prog 27 = true := by kernel_rfl
theorem hb28 : hasBody Try.prog 28 = true := by kernel_rfl
theorem hb29 : hasBody Try.prog 29 = true := by kernel_rfl
theorem hb30 : hasBody Try.prog 30 = true := by kernel_rfl
theorem hb31 : hasBody Try.prog 31 = true := by kernel_rfl
theorem hb32 : hasBody Try.prog 32 = true := by kernel_rfl
theorem hb33 : hasBody Try.prog 33 = true := by kernel_rfl
theorem hb34 : hasBody Try.prog 34 = true := by kernel_rfl
theorem hb35 : hasBody Try.prog 35 = true := by kernel_rfl
theorem hb36 : hasBody Try.prog 36 = true := by kernel_rfl
theorem hb37 : hasBody Try.prog 37 = true := by kernel_rfl
theorem hb38 : hasBody Try.prog 38 = true := by kernel_rfl
theorem hb39 : hasBody Try.prog 39 = true := by kernel_rfl
theorem hb40 : hasBody Try.prog 40 = true := by kernel_rfl
theorem hb41 : hasBody Try.prog 41 = true := by kernel_rfl
theorem hb42 : hasBody Try.prog 42 = true := by kernel_rfl
theorem hb43 : hasBody Try.prog 43 = true := by kernel_rfl
theorem hb44 : hasBody Try.prog 44 = true := by kernel_rfl
theorem hb45 : hasBody Try.prog 45 = true := by kernel_rfl
theorem hb46 : hasBody Try.prog 46 = true := by kernel_rfl
theorem hb47 : hasBody Try.prog 47 = true := by kernel_rfl
theorem hb48 : hasBody Try.prog 48 = true := by kernel_rfl
theorem hb49 : hasBody Try.prog 49 = true := by kernel_rfl
theorem hb50 : hasBody Try.prog 50 = true := by kernel_rfl
theorem hb51 : hasBody Try.prog 51 = true := by kernel_rfl
theorem hb52 : hasBody Try.prog 52 = true := by kernel_rfl
theorem hb53 : hasBody Try.prog 53 = true := by kernel_rfl
theorem hb54 : hasBody Try.prog 54 = true := by kernel_rfl
theorem hb55 : hasBody Try.prog 55 = true := by kernel_rfl
theorem hb56 : hasBody Try.prog 56 = true := by kernel_rfl
theorem hb57 : hasBody Try.prog 57 = true := by kernel_rfl
theorem hb58 : hasBody Try.prog 58 = true := by kernel_rfl
theorem hb59 : hasBody Try.prog 59 = true := by kernel_rfl
theorem hb60 : hasBody Try.prog 60 = true := by kernel_rfl
theorem hb61 : hasBody Try.prog 61 = true := by kernel_rfl
theorem hb62 : hasBody Try.prog 62 = true := by kernel_rfl
theorem hb63 : hasBody Try.prog 63 = true := by kernel_rfl
theorem hb64 : hasBody Try.prog 64 = true := by kernel_rfl
theorem hb65 : hasBody Try.prog 65 = true := by kernel_rfl
theorem hb66 : hasBody Try.prog 66 = true := by kernel_rfl
theorem hb67 : hasBody Try.prog 67 = true := by kernel_rfl
theorem hb68 : hasBody Try.prog 68 = true := by kernel_rfl
theorem hb69 : hasBody Try.prog 69 = true := by kernel_rfl
theorem hb70 : hasBody Try.prog 70 = true := by kernel_rfl
theorem hb71 : hasBody Try.prog 71 = true := by kernel_rfl
theorem hb72 : hasBody Try.prog 72 = true := by kernel_rfl
theorem hb73 : hasBody Try.prog 73 = true := by kernel_rfl
theorem hb74 : hasBody Try.prog 74 = true := by kernel_rfl
theorem hb75 : hasBody Try.prog 75 = true := by kernel_rfl
theorem hb78 : hasBody Try.prog 78 = true := by kernel_rfl
theorem hb79 : hasBody Try.prog 79 = true := by kernel_rfl
theorem hb80 : hasBody Try.prog 80 = true := by kernel_rfl
theorem hb81 : hasBody Try.prog 81 = true := by kernel_rfl
theorem hb82 : hasBody Try.prog 82 = true := by kernel_rfl
theorem hb86 : hasBody Try.prog 86 = true := by kernel_rfl
theorem nb76 : Bodyless Try.prog 76 add64Entry := ⟨Try.f76, Try.func76, by kernel_rfl, by kernel_rfl, by kernel_rfl, by kernel_rfl⟩
theorem nb77 : Bodyless Try.prog 77 sub64Entry := ⟨Try.f77, Try.func77, by kernel_rfl, by kernel_rfl, by kernel_rfl, by kernel_rfl⟩
theorem mixT : Try.prog.follows .mixedOrders = true := Try.checked.mixed
attribute [simp] idf_Wd' List.getElem?_cons_zero List.getElem?_cons_succ List.getElem?_toArray runOps stepOp.eq_def agd.eq_def dstOk.eq_def opVal.eq_def opNew.eq_def opSto.eq_def ev.eq_def cv.eq_def puts_some puts_none upd_ap lst.eq_def aBin.eq_def aUn.eq_def aBi_str aBi_isl aBi_osl aBi_nsl aBi_cap aBi_max aBi_min aBi_max3 aConv.eq_def aLd.eq_def aLoad.eq_def aField.eq_def aFld.eq_def aIdx_isl aIdx_osl aSlc_isl aSlc_osl aSlc_str aSlc_nsl bnd.eq_def evs_nil evs_cons aBuild.eq_def aFill splice.eq_def cells_agg cells_int cells_bool cells_str cells_nil cells_nsl cells_isl cells_osl cells_ptr cells_ip cells_fn cells_Wd one_int one_bool one_str one_nil one_nsl one_isl one_osl one_ptr one_ip one_fn one_Wd aSets hupd_eq hupd_ne wrap_i64s wrap_u64s wrap_u32s wrap_u8s wd_getD wd_set wd_len wd_replicate wd_one wd_fold fz_osl hupd_same aSix.eq_def aEqS.eq_def aEqB_bool aEqB_nsl aEqB_nil
end Go.Proofs.Ytgeecahbahgjbaa
